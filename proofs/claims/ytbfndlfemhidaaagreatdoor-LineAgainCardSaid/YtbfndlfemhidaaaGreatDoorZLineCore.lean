/- Texts of this seat in one (ZLineCore), what nothing speaks of left out: by pack.py, a program of this session. -/
import Derived.Test.YtbfndlfemhidaaaGreatDoorZLineBack
/- A line's tokens are read as the line: plain Lean on lists. -/
namespace Go.Proofs.YtbfndlfemhidaaaGreatDoor.LnW
open Go.RowKit Go.Proofs.YtbfndlfemhidaaaGreatDoor.LexP Go.Proofs.YtbfndlfemhidaaaGreatDoor.P Go.Proofs.YtbfndlfemhidaaaGreatDoor.P.ZT Go.Proofs.YtbfndlfemhidaaaGreatDoor.P.LD Go.Proofs.YtbfndlfemhidaaaGreatDoorW.PrintWords Go.Proofs.YtbfndlfemhidaaaGreatDoorW.PrintLast Go.Proofs.YtbfndlfemhidaaaGreatDoorW.PrintMore Go.Proofs.YtbfndlfemhidaaaGreatDoor.Lex Go.Proofs.YtbfndlfemhidaaaGreatDoor.Ex Go.Proofs.YtbfndlfemhidaaaGreatDoor.Li
set_option linter.unusedVariables false
set_option linter.unusedSimpArgs false
theorem mark_is (l : List Tok) (i : Nat) (c : UInt8) : markB (l.map toS) i c = decide (l[i]? = some (mk c)) := by
 unfold markB
 rw [List.getElem?_map]
 cases h : l[i]? with
 | none => simp
 | some t =>
  obtain ⟨k, s, n⟩ := t
  simp only [Option.map_some, toS, mk]
  rw [Bool.eq_iff_iff]
  simp only [Bool.and_eq_true, beq_iff_eq, decide_eq_true_eq, Option.some.injEq, Tok.mk.injEq, LR.tl]
  constructor
  ·
   rintro ⟨a, b, c⟩; exact ⟨by omega, b, c⟩
  ·
   rintro ⟨a, b, c⟩; exact ⟨by omega, b, c⟩
theorem at_pre (pre : List Tok) (t : Tok) (u : List Tok) : (pre ++ t :: u)[pre.length]? = some t := by
 rw [List.getElem?_append_right (Nat.le_refl _)]
 simp
theorem at_pre1 (pre : List Tok) (t v : Tok) (u : List Tok) : (pre ++ t :: v :: u)[pre.length + 1]? = some v := by
 rw [List.getElem?_append_right (by omega)]
 simp [show pre.length + 1 - pre.length = 1 by omega]
theorem at_pre2 (pre : List Tok) (t v z : Tok) (u : List Tok) : (pre ++ t :: v :: z :: u)[pre.length + 2]? = some z := by
 rw [List.getElem?_append_right (by omega)]
 simp [show pre.length + 2 - pre.length = 2 by omega]
theorem plainB_of (s : List UInt8) (h : plainL s = true) : plainB (toS ⟨1, s, 0⟩) = true := by
 unfold plainL at h
 simp only [Bool.and_eq_true, Bool.not_eq_true', beq_eq_false_iff_ne, ne_eq] at h
 unfold plainB toS
 simp only [Bool.and_eq_true, Bool.not_eq_true', beq_eq_false_iff_ne, ne_eq]
 refine ⟨rfl, h.2, ?_⟩
 cases s with
 | nil => exact absurd h.1 (by decide)
 | cons c t =>
  have := h.1
  unfold nameL at this
  simp only [Bool.and_eq_true, decide_eq_true_eq] at this
  exact LL.head_start c this.1.2
theorem labels_back : ∀ (labs : List (List UInt8)) (p : List Tok), labsT labs = some p → (∀ s ∈ labs, s.length ≤ 100000) → ∀ (pre u : List Tok) (out : List ByteArray) (d : Nat), labs.length < d → ¬ u[1]? = some (mk 58) →
  labelsB ((pre ++ p ++ u).map toS) d pre.length out = (out ++ labs.map fun s => ⟨s.toArray⟩, (pre ++ p).length)
 | _, _, _, _, _, _, _, 0, hd, _ => by omega
 | [], p, h, _, pre, u, out, d + 1, hd, hu => by
  cases h
  rw [labelsB, if_neg]
  ·
   simp
  ·
   rw [mark_is, List.append_nil]
   simp only [decide_eq_true_eq]
   rw [List.getElem?_append_right (by omega), show pre.length + 1 - pre.length = 1 by omega]
   exact hu
 | s :: r, p, h, hs, pre, u, out, d + 1, hd, hu => by
  rw [labsT] at h
  cases hl : labelL s with
  | none => rw [hl] at h; cases h
  | some t =>
   rw [hl] at h
   cases hr : labsT r with
   | none => rw [hr] at h; cases h
   | some q =>
    rw [hr] at h
    cases h
    have e : pre ++ (t :: mk 58 :: q) ++ u = pre ++ t :: mk 58 :: (q ++ u) := by simp
    have ih := labels_back r q hr (fun s h => hs s (by simp [h])) (pre ++ [t, mk 58]) u
    rw [labelsB, mark_is, e, at_pre1, if_pos (by simp), List.getElem?_map, at_pre, Option.map_some]
    simp only
    have e2 : pre ++ t :: mk 58 :: (q ++ u) = pre ++ [t, mk 58] ++ q ++ u := by simp
    have e3 : pre.length + 2 = (pre ++ [t, mk 58]).length := by simp
    rcases (label_fine hl (hs s (by simp))).2 with ⟨rfl, hp⟩ | ⟨rfl, hp, hc, hn⟩
    ·
     rw [if_pos (plainB_of s hp), e2, e3, ih (out ++ [_]) d (by simp only [List.length_cons] at hd; omega) hu]
     simp [toS]
    ·
     rw [if_neg (by unfold plainB toS; simp), if_pos (by unfold countB toS; simp; omega), e2, e3, ih (out ++ [_]) d (by simp only [List.length_cons] at hd; omega) hu]
     have := (LL.count_parts hc).2.2.2
     simp [toS, this]
theorem nil_e {e : E} (h : nilE e = true) : e = z38 := by
 obtain ⟨a, b, c, d⟩ := e
 unfold nilE at h
 simp only [Bool.and_eq_true, beq_iff_eq, ByteArray.toList_eq] at h
 obtain ⟨ha, hb, rfl, rfl⟩ := h
 have f : ∀ s : ByteArray, s.data.toList = [] → s = ⟨#[]⟩ := fun s h => by
  have := arr_back s
  rw [h] at this
  exact this.symm
 rw [f a ha, f b hb]
 rfl
theorem nil_s {s : ByteArray} (h : (s.toList == ([] : List UInt8)) = true) : s = ⟨#[]⟩ := by
 simp only [beq_iff_eq, ByteArray.toList_eq] at h
 have := arr_back s
 rw [h] at this
 exact this.symm
theorem to_x {e : E} (h : okE e) : toE (xOf e) = e := by
 obtain ⟨a, b, c, d⟩ := e
 unfold toE xOf
 simp only [arr_back]
 rw [Int.toNat_of_nonneg h.m.1]
theorem toks_head {x : X} (h : sumB x = true) : ∃ t r, toksX x = t :: r ∧ t.k ≠ 3 ∧ t.k ≠ 4 ∧ (t.k = 1 → regL t.t = none) := by
 obtain ⟨hc, hr⟩ := sum_check h
 obtain ⟨hs, _, hm⟩ := check_parts hc
 unfold toksX
 by_cases m0 : 0 < x.m
 ·
  rw [if_pos m0]
  refine ⟨⟨1, modName x.m, 0⟩, _, rfl, by simp, by simp, fun _ => ?_⟩
  have : ∀ m, m < 5 → 0 < m → regL (modName m) = none := by decide +kernel
  exact this x.m (by omega) m0
 ·
  rw [if_neg m0, if_neg m0]
  by_cases s0 : x.s ≠ []
  ·
   rw [if_pos s0]
   refine ⟨⟨1, x.s, 0⟩, _, rfl, by simp, by simp, fun _ => ?_⟩
   rw [decide_eq_true (show x.m = 0 by omega), Bool.true_and] at hr
   simpa using hr
  ·
   have s1 : x.s = [] := by simpa using s0
   have l1 : x.l = [] := by
    rcases (check_parts hc).2.1 with h | h
    ·
     exact h
    ·
     exact absurd s1 h.1
   refine ⟨⟨2, [], x.n⟩, [], ?_, by simp, by simp, fun h => by simp at h⟩
   simp [s1, l1]
theorem reg_at (l : List Tok) (i : Nat) : regAt (l.map toS) i = match l[i]? with | some t => if t.k = 1 then regL t.t else none | none => none := by
 unfold regAt
 rw [List.getElem?_map]
 cases l[i]? with
 | none => rfl
 | some t =>
  simp only [Option.map_some, toS]
  by_cases c : t.k = 1
  ·
   rw [if_pos c, if_pos (by omega)]
  ·
   rw [if_neg c, if_neg (by omega)]
theorem parse_at {x : X} (h : checkL x = true) (hn : numX x) (pre u : List Tok) (hu : Go.Proofs.YtbfndlfemhidaaaGreatDoor.Ex.Good u) (hm : (pre ++ (toksX x ++ u)).all mayL = true) : parseL (pre ++ (toksX x ++ u)) (pre.length : Int) = (x, pre.length + (toksX x).length, 0) := by
 unfold parseL
 rw [if_neg (by rw [hm]; simp), if_neg (by simp only [List.length_append]; omega)]
 rw [Int.toNat_natCast, List.drop_left', parse_toks h hn hu]
 ·
  simp only [List.length_append]
  rw [show pre.length + ((toksX x).length + u.length) - u.length = pre.length + (toksX x).length by omega]
 ·
  rfl
theorem by_at (pre u : List Tok) {n : Int} (h : regB n = true) : byAt ((pre ++ mk 40 :: calT n :: mk 41 :: u).map toS) pre.length = some n.toNat := by
 unfold byAt
 rw [reg_at, at_pre1]
 simp only
 rw [if_pos (show (calT n).k = 1 from rfl), (cal_reg h).1]
 simp only
 rw [mark_is, at_pre2, if_pos (by simp)]
def Sep (u : List Tok) : Prop := u = [] ∨ ∃ r, u = mk 44 :: r
theorem sep_mark {u : List Tok} (h : Sep u) (pre : List Tok) (c : UInt8) (hc : c ≠ 44) : markB ((pre ++ u).map toS) pre.length c = false := by
 rw [mark_is]
 rcases h with rfl | ⟨r, rfl⟩
 ·
  simp
 ·
  rw [at_pre]
  simp only [decide_eq_false_iff_not, Option.some.injEq]
  unfold mk
  simp only [Tok.mk.injEq, List.cons.injEq]
  exact fun h => hc h.2.1.1.symm
theorem sep_good {u : List Tok} (h : Sep u) : Go.Proofs.YtbfndlfemhidaaaGreatDoor.Ex.Good u := by
 rcases h with rfl | ⟨r, rfl⟩ <;> exact ⟨rfl, rfl⟩
theorem exprB_at {x : A} (ok : okA x) (hs : sumB (xOf x.f2) = true) (pre u : List Tok) (hu : Go.Proofs.YtbfndlfemhidaaaGreatDoor.Ex.Good u) (hm : (pre ++ (toksX (xOf x.f2) ++ u)).all mayL = true) :
  argB ((pre ++ (toksX (xOf x.f2) ++ u)).map toS) pre.length = if markB ((pre ++ (toksX (xOf x.f2) ++ u)).map toS) (pre.length + (toksX (xOf x.f2)).length) 40 = true then memB ((pre ++ (toksX (xOf x.f2) ++ u)).map toS) (pre.length + (toksX (xOf x.f2)).length) x.f2 else .inl (⟨2, 0, x.f2, ⟨#[]⟩⟩, pre.length + (toksX (xOf x.f2)).length) := by
 obtain ⟨hc, hr⟩ := sum_check hs
 obtain ⟨t, r, e, h3, h4, h1⟩ := toks_head hs
 have hat : (pre ++ (toksX (xOf x.f2) ++ u))[pre.length]? = some t := by rw [e, List.cons_append]; exact at_pre _ _ _
 unfold argB
 rw [List.getElem?_map, hat, Option.map_some]
 simp only
 rw [if_neg (show ¬ (toS t).f0 = 3 by show ¬ (t.k : Int) = 3; omega)]
 unfold restB
 have hreg : regAt ((pre ++ (toksX (xOf x.f2) ++ u)).map toS) pre.length = none := by
  rw [reg_at, hat]
  simp only
  by_cases c : t.k = 1
  ·
   rw [if_pos c]; exact h1 c
  ·
   rw [if_neg c]
 rw [hreg]
 simp only
 have hmk : markB ((pre ++ (toksX (xOf x.f2) ++ u)).map toS) pre.length 40 = false := by
  rw [mark_is, hat]
  simp only [decide_eq_false_iff_not, Option.some.injEq]
  intro h
  rw [h] at h4
  exact h4 rfl
 rw [if_neg (by rw [hmk]; simp), map_on, parse_at hc (xnum ok.e) pre u hu hm]
 unfold exprB
 simp only
 rw [if_neg (by simp), if_neg (by
  rintro ⟨a, b⟩
  rw [decide_eq_true a, b] at hr
  cases hr), to_x ok.e]
theorem arg_back {x : A} (ok : okA x) {t : List Tok} (h : toldT x = some t) (pre u : List Tok) (hu : Sep u) (hm : (pre ++ (t ++ u)).all mayL = true) :
  argB ((pre ++ (t ++ u)).map toS) pre.length = .inl (x, pre.length + t.length) := by
 obtain ⟨a, n, e, s⟩ := x
 unfold toldT at h
 simp only at h
 split at h
 ·
  rename_i c4
  split at h
  ·
   rename_i hc
   cases h
   simp only [Bool.and_eq_true, beq_iff_eq] at hc
   obtain ⟨⟨rfl, he⟩, _⟩ := hc
   obtain rfl := nil_e he
   subst c4
   unfold argB
   rw [List.getElem?_map, List.cons_append, at_pre, Option.map_some]
   simp [toS]
  ·
   cases h
 split at h
 ·
  rename_i _ c1
  split at h
  ·
   rename_i hc
   cases h
   obtain ⟨hc, hr⟩ := hc
   rw [Bool.and_eq_true] at hc
   obtain rfl := nil_e hc.1
   obtain rfl := nil_s hc.2
   subst c1
   obtain ⟨m, rfl, _⟩ := regB_nat hr
   unfold argB restB
   rw [reg_at, List.getElem?_map, List.cons_append, at_pre, Option.map_some]
   simp only
   rw [if_neg (show ¬ (toS (calT (m : Int))).f0 = 3 by show ¬ ((1 : Nat) : Int) = 3; omega), if_pos (show (calT (m : Int)).k = 1 from rfl), (cal_reg hr).1]
   simp
  ·
   cases h
 split at h
 ·
  rename_i _ _ c2
  split at h
  ·
   rename_i hc
   cases h
   obtain ⟨hc, hs⟩ := hc
   simp only [Bool.and_eq_true, beq_iff_eq] at hc
   obtain ⟨rfl, h3⟩ := hc
   obtain rfl := nil_s (by simpa using h3)
   subst c2
   rw [exprB_at ok hs pre u (sep_good hu) hm, if_neg]
   have := sep_mark hu (pre ++ toksX (xOf e)) 40 (by decide)
   rw [List.append_assoc, List.length_append] at this
   rw [this]
   simp
  ·
   cases h
 split at h
 ·
  rename_i _ _ _ c3
  split at h
  ·
   rename_i hc
   cases h
   obtain ⟨h3, hs, hr⟩ := hc
   obtain rfl := nil_s h3
   subst c3
   have e1 : pre ++ (toksX (xOf e) ++ [mk 40, calT n, mk 41] ++ u) = pre ++ (toksX (xOf e) ++ (mk 40 :: calT n :: mk 41 :: u)) := by simp
   rw [e1] at hm ⊢
   rw [exprB_at ok hs pre _ ⟨rfl, rfl⟩ hm, if_pos]
   ·
    have := by_at (pre ++ toksX (xOf e)) u hr
    rw [List.append_assoc, List.length_append] at this
    unfold memB
    rw [this]
    obtain ⟨m, rfl, _⟩ := regB_nat hr
    simp [Nat.add_assoc]
   ·
    rw [mark_is]
    have := at_pre (pre ++ toksX (xOf e)) (mk 40) (calT n :: mk 41 :: u)
    rw [List.append_assoc, List.length_append] at this
    rw [this]
    simp
  ·
   cases h
 ·
  cases h
theorem told_ne {x : A} {t : List Tok} (h : toldT x = some t) : t ≠ [] := by
 unfold toldT at h
 split at h
 ·
  split at h
  ·
   cases h; simp
  ·
   cases h
 split at h
 ·
  split at h
  ·
   cases h; simp
  ·
   cases h
 split at h
 ·
  split at h
  ·
   rename_i hc
   cases h
   obtain ⟨t, r, e, _⟩ := toks_head hc.2
   rw [e]; simp
  ·
   cases h
 split at h
 ·
  split at h
  ·
   cases h; simp
  ·
   cases h
 ·
  cases h
theorem args_sep {l : List A} {q : List Tok} (h : argsT l = some q) : Sep q := by
 cases l with
 | nil => cases h; exact .inl rfl
 | cons x r =>
  rw [argsT] at h
  cases hl : toldT x with
  | none => rw [hl] at h; cases h
  | some t =>
   rw [hl] at h
   cases hr : argsT r with
   | none => rw [hr] at h; cases h
   | some q => rw [hr] at h; cases h; exact .inr ⟨_, rfl⟩
theorem args_back (l : List Tok) (hm : l.all mayL = true) : ∀ (rest : List A) (q : List Tok), argsT rest = some q → (∀ x ∈ rest, okA x) → ∀ (pre : List Tok) (out : List A) (d : Nat), l = pre ++ (if out = [] then q.tail else q) → out.length + rest.length ≤ 8 → rest.length < d →
  argsB (l.map toS) d pre.length out = .inl (out ++ rest)
 | _, _, _, _, _, _, 0, _, _, hd => by omega
 | [], q, h, _, pre, out, d + 1, hl, _, _ => by
  cases h
  have : l = pre := by rw [hl]; split <;> simp
  rw [argsB, if_pos (by rw [this, List.length_map]; omega), List.append_nil]
 | x :: r, q, h, ok, pre, out, d + 1, hl, h8, hd => by
  rw [argsT] at h
  cases ht : toldT x with
  | none => rw [ht] at h; cases h
  | some t =>
   rw [ht] at h
   cases hr : argsT r with
   | none => rw [hr] at h; cases h
   | some q' =>
    rw [hr] at h
    cases h
    have hne := told_ne ht
    have hpos : 0 < t.length := List.length_pos_iff.2 hne
    simp only [List.length_cons] at h8 hd
    have okr : ∀ x ∈ r, okA x := fun x h => ok x (by simp [h])
    by_cases h0 : out = []
    ·
     rw [if_pos h0, List.tail_cons] at hl
     have hlen : l.length = pre.length + (t.length + q'.length) := by rw [hl]; simp
     have ha := arg_back (ok x (by simp)) ht pre q' (args_sep hr) (by rw [← hl]; exact hm)
     rw [← hl] at ha
     rw [argsB, if_neg (by rw [List.length_map]; omega), if_neg (fun h => h.1 h0), if_pos h0, ha]
     simp only
     rw [if_neg (by omega), show pre.length + t.length = (pre ++ t).length by simp]
     rw [args_back l hm r q' hr okr (pre ++ t) (out ++ [x]) d (by rw [if_neg (by simp), hl]; simp) (by simp only [List.length_append, List.length_cons, List.length_nil]; omega) (by omega)]
     simp
    ·
     rw [if_neg h0] at hl
     have hlen : l.length = pre.length + (t.length + q'.length + 1) := by rw [hl]; simp
     have e : l = (pre ++ [mk 44]) ++ (t ++ q') := by rw [hl]; simp
     have ha := arg_back (ok x (by simp)) ht (pre ++ [mk 44]) q' (args_sep hr) (by rw [← e]; exact hm)
     rw [← e, show (pre ++ [mk 44]).length = pre.length + 1 by simp] at ha
     have hmk : markB (l.map toS) pre.length 44 = true := by rw [mark_is, hl, at_pre]; simp
     rw [argsB, if_neg (by rw [List.length_map]; omega), if_neg (by rw [hmk]; simp), if_neg h0, ha]
     simp only
     rw [if_neg (by omega), show pre.length + 1 + t.length = (pre ++ [mk 44] ++ t).length by simp; omega]
     rw [args_back l hm r q' hr okr (pre ++ [mk 44] ++ t) (out ++ [x]) d (by rw [if_neg (by simp), hl]; simp) (by simp only [List.length_append, List.length_cons, List.length_nil]; omega) (by omega)]
     simp
end Go.Proofs.YtbfndlfemhidaaaGreatDoor.LnW
