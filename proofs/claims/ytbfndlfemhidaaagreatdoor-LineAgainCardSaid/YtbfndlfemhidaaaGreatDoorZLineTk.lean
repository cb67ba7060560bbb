/- Texts of this seat in one (ZLineTk), what nothing speaks of left out: by pack.py, a program of this session. -/
import Derived.Test.YtbfndlfemhidaaaGreatDoorPx8
import Derived.Test.YtbfndlfemhidaaaGreatDoorPx7
import Derived.Test.YtbfndlfemhidaaaGreatDoorPx13
import Derived.Test.YtbfndlfemhidaaaGreatDoorPx9
import Derived.Test.YtbfndlfemhidaaaGreatDoorPx11
import Derived.Test.YtbfndlfemhidaaaGreatDoorZLineWr
/- The tokens of a line, as the printed functions tell them, on lists. -/
namespace Go.Proofs.YtbfndlfemhidaaaGreatDoor.LnW
open Go.RowKit Go.Proofs.YtbfndlfemhidaaaGreatDoor.LexP Go.Proofs.YtbfndlfemhidaaaGreatDoor.P Go.Proofs.YtbfndlfemhidaaaGreatDoor.P.ZT Go.Proofs.YtbfndlfemhidaaaGreatDoorW.PrintWords Go.Proofs.YtbfndlfemhidaaaGreatDoorW.PrintLast Go.Proofs.YtbfndlfemhidaaaGreatDoorW.PrintMore Go.Proofs.YtbfndlfemhidaaaGreatDoor.Lex Go.Proofs.YtbfndlfemhidaaaGreatDoor.Ex Go.Proofs.YtbfndlfemhidaaaGreatDoor.Li
set_option linter.unusedVariables false
set_option linter.unusedSimpArgs false
abbrev T := S61
abbrev A := S40
abbrev E := S38
def xOf (e : E) : X := ⟨e.f0.data.toList, e.f1.data.toList, e.f2, e.f3.toNat⟩
def nilE (e : E) : Bool := (e.f0.toList == ([] : List UInt8) && (e.f1.toList == ([] : List UInt8) && (e.f2 == 0 && (e.f3 == 0))))
def sumB (x : X) : Bool := checkL x && !(decide (x.m = 0) && (regL x.s).isSome)
def calT (n : Int) : Tok := ⟨1, regNames.getD n.toNat [], 0⟩
def regB (n : Int) : Bool := decide (0 ≤ n) && decide (n < 32)
def toldT (x : A) : Option (List Tok) :=
 if x.f0 = 4 then (if (x.f1 == 0 && nilE x.f2) = true ∧ mayL ⟨3, x.f3.data.toList, 0⟩ = true then some [⟨3, x.f3.data.toList, 0⟩] else none)
 else if x.f0 = 1 then (if (nilE x.f2 && (x.f3.toList == ([] : List UInt8))) = true ∧ regB x.f1 = true then some [calT x.f1] else none)
 else if x.f0 = 2 then (if (x.f1 == 0 && (x.f3.toList == ([] : List UInt8))) = true ∧ sumB (xOf x.f2) = true then some (toksX (xOf x.f2)) else none)
 else if x.f0 = 3 then (if (x.f3.toList == ([] : List UInt8)) = true ∧ sumB (xOf x.f2) = true ∧ regB x.f1 = true then some (toksX (xOf x.f2) ++ [mk 40, calT x.f1, mk 41]) else none)
 else none
structure okE (e : E) : Prop where
 s : e.f0.size ≤ 100000
 l : e.f1.size ≤ 100000
 n : -9223372036854775808 ≤ e.f2 ∧ e.f2 < 9223372036854775808
 m : 0 ≤ e.f3 ∧ e.f3 ≤ 255
structure okA (x : A) : Prop where
 n : -9223372036854775808 ≤ x.f1 ∧ x.f1 < 9223372036854775808
 e : okE x.f2
 t : x.f3.size ≤ 100000
theorem reg_f (s : ByteArray) (h : s.size ≤ 1000000) : line_Register.f s = some (LR.regV s) := if_pos h
theorem sum_f (e : E) (h : okE e) : line_sum.f e.f0 e.f1 e.f2 e.f3 = some (!(decide ((xOf e).m = 0) && (regL (xOf e).s).isSome)) := by
 unfold line_sum.f
 rw [reg_f _ (by have := h.s; omega)]
 simp only [Option.bind_some]
 have hm := h.m
 have hv : (LR.regV e.f0).2 = if (regL (xOf e).s).isSome then 0 else 6 := by
  unfold LR.regV xOf
  simp only
  cases regL e.f0.data.toList <;> rfl
 rw [hv]
 by_cases c : (xOf e).m = 0
 ·
  have : e.f3 = 0 := by unfold xOf at c; simp only at c; omega
  rw [if_neg (by omega), decide_eq_true c]
  cases (regL (xOf e).s).isSome <;> rfl
 ·
  have : 0 < e.f3 := by unfold xOf at c; simp only at c; omega
  rw [if_pos (by omega), decide_eq_false c]
  rfl
theorem tokens_f (e : E) (h : okE e) : expr_Tokens.f e.f0 e.f1 e.f2 e.f3 = some (if checkL (xOf e) then ((toksX (xOf e)).map toS, 0) else ([], 8)) := by
 unfold expr_Tokens.f
 rw [if_pos ⟨by have := h.s; omega, by have := h.l; omega, h.m.1, h.m.2⟩]
 rfl
theorem called_f (n : Int) (h : -9223372036854775808 ≤ n ∧ n < 9223372036854775808) : line_Called.f n = some (⟨(if regB n then regNames.getD n.toNat [] else []).toArray⟩, if regB n then 0 else 2) := by
 unfold line_Called.f calledL regB
 rw [if_pos h]
 by_cases c : n < 0 ∨ 32 ≤ n
 ·
  rw [if_pos c, show (decide (0 ≤ n) && decide (n < 32)) = false by rcases c with c | c <;> simp <;> omega]
  rfl
 ·
  rw [if_neg c, show (decide (0 ≤ n) && decide (n < 32)) = true by simp; omega]
  rfl
theorem tok3_f (s : ByteArray) (h : s.size ≤ 100000) (k : Nat) (hk : 1000000 ≤ k) : lex_Check.f k 3 s 0 = some (if mayL ⟨3, s.data.toList, 0⟩ = true then 0 else 8) := by
 have := text_f (⟨3, s, 0⟩ : T) (by show (0 : Int) ≤ 3; omega) (by show s.size ≤ _; omega) ⟨by show (-9223372036854775808 : Int) ≤ 0; omega, by show (0 : Int) < 9223372036854775808; omega⟩ k (by show s.size + 1 < k; omega)
 unfold lex_Check.f
 rw [this]
 simp only [Option.bind_some]
 rw [show (textL (toTok (⟨3, s, 0⟩ : T))).2 = mayL ⟨3, s.data.toList, 0⟩ from rfl]
 cases mayL ⟨3, s.data.toList, 0⟩ <;> rfl
theorem told_j (x : A) (ok : okA x) (k : Nat) (hk : 1000000 ≤ k) (w : ByteArray) (e : Int) (hw : w = ⟨(if regB x.f1 then regNames.getD x.f1.toNat [] else []).toArray⟩) (he : e = if regB x.f1 then 0 else 2)
  (l : List T) (b : Bool) (hb : b = sumB (xOf x.f2)) (hl : b = true → l = (toksX (xOf x.f2)).map toS) (hn : l.length ≤ 8) :
  ∃ q, line_told.j0 (k + 1) w e l b x.f0 x.f1 x.f2.f0 x.f2.f1 x.f2.f2 x.f2.f3 x.f3 = some (q, (toldT x).isSome) ∧ ∀ t, toldT x = some t → q = t.map toS := by
 rw [line_told.j0, show (x.f2.f0.toList == ([] : List UInt8) && (x.f2.f1.toList == ([] : List UInt8) && (x.f2.f2 == 0 && (x.f2.f3 == 0)))) = nilE x.f2 from rfl]
 unfold toldT
 by_cases c4 : x.f0 = 4
 ·
  rw [if_pos c4, if_pos c4, Option.bind_some]
  by_cases c : (x.f1 == 0 && nilE x.f2) = true
  ·
   rw [if_pos c, tok3_f x.f3 ok.t k hk]
   simp only [Option.bind_some]
   by_cases m : mayL ⟨3, x.f3.data.toList, 0⟩ = true
   ·
    rw [if_pos m, if_pos ⟨c, m⟩]
    exact ⟨_, rfl, fun t h => by cases h; rfl⟩
   ·
    rw [if_neg m, if_neg (fun h => m h.2)]
    exact ⟨_, rfl, fun t h => by cases h⟩
  ·
   rw [if_neg c, if_neg (fun h => c h.1)]
   exact ⟨_, rfl, fun t h => by cases h⟩
 rw [if_neg c4, if_neg c4]
 by_cases c1 : x.f0 = 1
 ·
  rw [if_pos c1, if_pos c1]
  simp only [line_word.f, Option.bind_some]
  by_cases c : (nilE x.f2 && (x.f3.toList == ([] : List UInt8))) = true
  ·
   rw [if_pos c]
   by_cases r : regB x.f1 = true
   ·
    rw [if_pos ⟨c, r⟩, he, hw, if_pos r, if_pos r]
    exact ⟨_, rfl, fun t h => by cases h; rfl⟩
   ·
    rw [if_neg (fun h => r h.2), he, if_neg r]
    exact ⟨_, rfl, fun t h => by cases h⟩
  ·
   rw [if_neg c, if_neg (fun h => c h.1)]
   exact ⟨_, rfl, fun t h => by cases h⟩
 rw [if_neg c1, if_neg c1]
 by_cases c2 : x.f0 = 2
 ·
  rw [if_pos c2, if_pos c2]
  by_cases c : (x.f1 == 0 && (x.f3.toList == ([] : List UInt8))) = true
  ·
   rw [if_pos c]
   cases hs : sumB (xOf x.f2) with
   | true =>
    rw [hs] at hb
    rw [if_pos ⟨c, rfl⟩, hb, hl hb]
    exact ⟨_, rfl, fun t h => by cases h; rfl⟩
   | false =>
    rw [hs] at hb
    rw [if_neg (fun h => by cases h.2), hb]
    exact ⟨_, rfl, fun t h => by cases h⟩
  ·
   rw [if_neg c, if_neg (fun h => c h.1)]
   exact ⟨_, rfl, fun t h => by cases h⟩
 rw [if_neg c2, if_neg c2]
 by_cases c3 : x.f0 = 3
 ·
  rw [if_pos c3, if_pos c3]
  simp only [line_mark.f, line_word.f, Option.bind_some, List.length_cons, List.length_nil]
  rw [if_pos (by omega)]
  by_cases c : (x.f3.toList == ([] : List UInt8)) = true
  ·
   rw [if_pos c]
   cases hs : sumB (xOf x.f2) with
   | true =>
    rw [hs] at hb
    rw [if_pos hb, hl hb]
    by_cases r : regB x.f1 = true
    ·
     rw [if_pos ⟨c, rfl, r⟩, he, hw, if_pos r, if_pos r]
     exact ⟨_, rfl, fun t h => by cases h; rw [List.map_append]; rfl⟩
    ·
     rw [if_neg (fun h => r h.2.2), he, if_neg r]
     exact ⟨_, rfl, fun t h => by cases h⟩
   | false =>
    rw [hs] at hb
    rw [if_neg (show ¬ b = true by rw [hb]; simp), if_neg (fun h => by cases h.2.1)]
    exact ⟨_, rfl, fun t h => by cases h⟩
  ·
   rw [if_neg c, if_neg (fun h => c h.1)]
   exact ⟨_, rfl, fun t h => by cases h⟩
 rw [if_neg c3, if_neg c3]
 exact ⟨_, rfl, fun t h => by cases h⟩
theorem told_f (x : A) (ok : okA x) (k : Nat) (hk : 1000000 < k) :
  ∃ q, line_told.f k x.f0 x.f1 x.f2.f0 x.f2.f1 x.f2.f2 x.f2.f3 x.f3 = some (q, (toldT x).isSome) ∧ ∀ t, toldT x = some t → q = t.map toS := by
 obtain ⟨k, rfl⟩ : ∃ m, k = m + 1 := ⟨k - 1, by omega⟩
 unfold line_told.f
 rw [called_f _ ok.n, tokens_f _ ok.e]
 simp only [Option.bind_some]
 cases hc : checkL (xOf x.f2) with
 | true =>
  rw [if_pos rfl, if_pos rfl, sum_f _ ok.e]
  simp only [Option.bind_some]
  exact told_j x ok k (by omega) _ _ rfl rfl _ _ (by unfold sumB; rw [hc]; rfl) (fun _ => rfl) (by have := ZU.toks_len (xOf x.f2); rw [List.length_map]; exact this)
 | false =>
  simp only [Bool.false_eq_true, if_false]
  rw [if_neg (show ¬ (8 : Int) = 0 by omega)]
  exact told_j x ok k (by omega) _ _ rfl rfl _ _ (by unfold sumB; rw [hc]; rfl) (fun h => by cases h) (by simp)
theorem told_len {x : A} {t : List Tok} (h : toldT x = some t) : t.length ≤ 11 := by
 unfold toldT at h
 have := ZU.toks_len (xOf x.f2)
 repeat' split at h
 all_goals first | (cases h; done) | (cases h; simp only [List.length_append, List.length_cons, List.length_nil]; omega) | (cases h; omega)
def labsT : List (List UInt8) → Option (List Tok)
 | [] => some []
 | s :: r => match labelL s with | none => none | some t => (labsT r).map fun q => t :: mk 58 :: q
def argsT : List A → Option (List Tok)
 | [] => some []
 | x :: r => match toldT x with | none => none | some t => (argsT r).map fun q => mk 44 :: (t ++ q)
def wordB (w : ByteArray) (n : Nat) : Bool := decide (n ≤ 8) && (if w.data.toList = [] then decide (n = 0) else plainL w.data.toList)
def wordT (w : ByteArray) : List Tok := if w.data.toList = [] then [] else [⟨1, w.data.toList, 0⟩]
def lineT (L : List ByteArray) (w : ByteArray) (l : List A) : Option (List Tok) :=
 match labsT (L.map (·.data.toList)) with
 | none => none
 | some p => if wordB w l.length then (argsT l).map fun q => p ++ wordT w ++ q.tail else none
theorem label_f (s : ByteArray) (h : s.size ≤ 100000) : ∃ a b c, line_label.f s = some (a, b, c, (labelL s.data.toList).isSome) ∧ ∀ t, labelL s.data.toList = some t → (⟨a, b, c⟩ : T) = toS t := by
 unfold line_label.f
 rw [if_pos (by omega)]
 unfold LL.labelV labelL
 cases hp : plainL s.data.toList with
 | true =>
  rw [if_pos rfl, if_pos rfl]
  exact ⟨_, _, _, rfl, fun t h => by cases h; simp [toS]⟩
 | false =>
  rw [if_neg (by simp), if_neg (by simp)]
  cases hc : countL s.data.toList with
  | true =>
   refine ⟨_, _, _, rfl, fun t h => ?_⟩
   cases h
   have hv : LL.atoiV s = (decNat s.data.toList : Int) := by
    have := (LL.count_ok s hc).1
    unfold LL.atoiV
    rw [this]
   rw [hv]
   rfl
  | false => exact ⟨_, _, _, rfl, fun t h => by cases h⟩
def tailV (k : Nat) (acc : List T) (L : List ByteArray) (w : ByteArray) (l : List A) : Option (List T × Bool) :=
 if w.toList = ([] : List UInt8) then (line_tokens.j1 k acc L w l) else ((line_word.f w).bind fun bt220 => (if acc.length < 4398046511104 then (line_tokens.j1 k (acc ++ [(⟨bt220.1, bt220.2.1, bt220.2.2⟩ : T)]) L w l) else (none)))
theorem rdo (l : List ByteArray) (i : Nat) (h : i < l.length) : rdOf ByteArray.empty l (i : Int) = l[i] := by
 simp [rdOf, List.getD, List.getElem?_eq_getElem h]
theorem labs_loop (L : List ByteArray) (w : ByteArray) (l : List A) (hL : L.length ≤ 1000000) (hs : ∀ s ∈ L, s.size ≤ 100000) (K : Nat) : ∀ (d i k : Nat) (acc : List T), L.length = i + d → K + d < k → acc.length + 2 * d ≤ 1000000 →
  (labsT ((L.drop i).map (·.data.toList)) = none → line_tokens.l0 k acc L (L.length : Int) (i : Int) L w l = some ([], false))
  ∧ ∀ p, labsT ((L.drop i).map (·.data.toList)) = some p → ∃ k', K ≤ k' ∧ line_tokens.l0 k acc L (L.length : Int) (i : Int) L w l = tailV k' (acc ++ p.map toS) L w l
 | d, i, 0, acc, _, hk, _ => by omega
 | 0, i, k + 1, acc, hd, hk, ha => by
  rw [List.drop_eq_nil_of_le (by omega)]
  refine ⟨fun h => (by cases h), fun p hp => ⟨k, by omega, ?_⟩⟩
  cases hp
  rw [line_tokens.l0, if_neg (by omega)]
  simp only [List.map_nil, List.append_nil]
  rfl
 | d + 1, i, k + 1, acc, hd, hk, ha => by
  have hlt : i < L.length := by omega
  obtain ⟨a, b, c, hf, ht⟩ := label_f L[i] (hs _ (List.getElem_mem hlt))
  rw [line_tokens.l0, if_pos (by omega), if_pos (by omega), if_pos (by omega), rdo L i hlt, hf, List.drop_eq_getElem_cons hlt, List.map_cons, labsT]
  simp only [Option.bind_some, line_mark.f]
  cases hl : labelL L[i].data.toList with
  | none => exact ⟨fun _ => rfl, fun p hp => by cases hp⟩
  | some t =>
   rw [ht t hl]
   have ih := labs_loop L w l hL hs K d (i + 1) k (acc ++ [toS t, toS (mk 58)]) (by omega) (by omega) (by simp only [List.length_append, List.length_cons, List.length_nil]; omega)
   have hw : wrap64 ((i : Int) + 1) = ((i + 1 : Nat) : Int) := wrap_succ (by omega)
   simp only [Option.isSome_some, if_true, List.length_cons, List.length_nil]
   rw [if_pos (by omega), hw]
   cases hq : labsT ((L.drop (i + 1)).map (·.data.toList)) with
   | none => exact ⟨fun _ => ih.1 hq, fun p hp => by cases hp⟩
   | some q =>
    refine ⟨fun h => (by cases h), fun p hp => ?_⟩
    cases hp
    obtain ⟨k', h1, h2⟩ := ih.2 q hq
    refine ⟨k', h1, ?_⟩
    rw [show acc ++ List.map toS (t :: mk 58 :: q) = acc ++ [toS t, toS (mk 58)] ++ q.map toS by simp]
    exact h2
theorem rda (l : List A) (i : Nat) (h : i < l.length) : rd_T40 l (i : Int) = l[i] := by
 simp [rd_T40, List.getD, List.getElem?_eq_getElem h]
theorem args_loop (l : List A) (hl : l.length ≤ 1000000) (ok : ∀ x ∈ l, okA x) : ∀ (d i k : Nat) (acc : List T), l.length = i + d → 1000001 + d < k → acc.length + 12 * d ≤ 1000000 →
  (argsT (l.drop i) = none → ∃ q, line_tokens.l1 k acc l (l.length : Int) (i : Int) = some (q, false))
  ∧ ∀ p, argsT (l.drop i) = some p → line_tokens.l1 k acc l (l.length : Int) (i : Int) = some (acc ++ (if i = 0 then p.tail else p).map toS, true)
 | d, i, 0, acc, _, hk, _ => by omega
 | 0, i, k + 1, acc, hd, hk, ha => by
  rw [List.drop_eq_nil_of_le (by omega)]
  refine ⟨fun h => (by cases h), fun p hp => ?_⟩
  cases hp
  rw [line_tokens.l1, if_neg (by omega)]
  simp
 | d + 1, i, k + 1, acc, hd, hk, ha => by
  have hlt : i < l.length := by omega
  obtain ⟨q, hf, ht⟩ := told_f l[i] (ok _ (List.getElem_mem hlt)) k (by omega)
  have hw : wrap64 ((i : Int) + 1) = ((i + 1 : Nat) : Int) := wrap_succ (by omega)
  rw [line_tokens.l1, if_pos (by omega), if_pos (by omega), if_pos (by omega), rda l i hlt, hf, List.drop_eq_getElem_cons hlt, argsT, hw]
  simp only [Option.bind_some, line_mark.f]
  have hacc : acc.length < 4398046511104 := by omega
  cases htt : toldT l[i] with
  | none =>
   refine ⟨fun _ => ?_, fun p hp => by cases hp⟩
   split <;> first | exact ⟨_, rfl⟩ | (rw [if_pos hacc]; exact ⟨_, rfl⟩)
  | some t =>
   have hlen := told_len htt
   obtain rfl := ht t htt
   by_cases h0 : i = 0
   ·
    subst h0
    have ih := args_loop l hl ok d 1 k (acc ++ t.map toS) (by omega) (by omega) (by rw [List.length_append, List.length_map]; omega)
    rw [if_neg (show ¬ ((0 : Nat) : Int) > 0 by omega)]
    simp only [Option.isSome_some, if_true, List.length_append, List.length_map, List.length_cons, List.length_nil]
    rw [if_pos (by omega)]
    cases hq : argsT (l.drop (0 + 1)) with
    | none =>
     refine ⟨fun _ => ih.1 hq, fun p hp => by cases hp⟩
    | some p' =>
     refine ⟨fun h => (by cases h), fun p hp => ?_⟩
     cases hp
     have := ih.2 p' hq
     rw [this]
     simp
   ·
    have ih := args_loop l hl ok d (i + 1) k (acc ++ [toS (mk 44)] ++ t.map toS) (by omega) (by omega) (by simp only [List.length_append, List.length_map, List.length_cons, List.length_nil]; omega)
    rw [if_pos (show (i : Int) > 0 by omega), if_pos hacc]
    simp only [Option.isSome_some, if_true, List.length_append, List.length_map, List.length_cons, List.length_nil]
    rw [if_pos (by omega)]
    cases hq : argsT (l.drop (i + 1)) with
    | none =>
     refine ⟨fun _ => ih.1 hq, fun p hp => by cases hp⟩
    | some p' =>
     refine ⟨fun h => (by cases h), fun p hp => ?_⟩
     cases hp
     have := ih.2 p' hq
     have e : (⟨4, ⟨#[44]⟩, 0⟩ : T) = toS (mk 44) := rfl
     rw [e, this]
     simp [h0]
theorem tok_nil {w : ByteArray} : (w.toList = ([] : List UInt8)) ↔ w.data.toList = [] := by rw [ByteArray.toList_eq]
theorem mono_k {α : Type} {f : Nat → Option α} (h : ∀ k, LeO (f k) (f (k + 1))) {r : α} {k k' : Nat} (hk : k ≤ k') (hf : f k = some r) : f k' = some r := by
 obtain ⟨d, rfl⟩ : ∃ d, k' = k + d := ⟨k' - k, by omega⟩
 clear hk
 induction d with
 | zero => exact hf
 | succ d ih => exact h _ _ ih
theorem lname_f (s : ByteArray) (hs : s.size ≤ 100000) (k : Nat) (hk : 2000000 ≤ k) : line_name.f k s = some (plainL s.data.toList) :=
 mono_k (f := fun k => line_name.f k s) (line_name.mono s) hk (LL.name_f s (by omega))
theorem tail_f (w : ByteArray) (hw : w.size ≤ 100000) (L : List ByteArray) (l : List A) (ok : ∀ x ∈ l, okA x) (k : Nat) (hk : 3000000 ≤ k) (acc : List T) (ha : acc.length ≤ 500000) :
  ∃ q, tailV k acc L w l = some (q, wordB w l.length && (argsT l).isSome) ∧ ∀ t, wordB w l.length = true → argsT l = some t → q = acc ++ (wordT w).map toS ++ t.tail.map toS := by
 obtain ⟨k, rfl⟩ : ∃ m, k = m + 2 := ⟨k - 2, by omega⟩
 have key : ∀ (acc : List T), acc.length ≤ 600000 → ∃ q, line_tokens.j1 (k + 2) acc L w l = some (q, wordB w l.length && (argsT l).isSome) ∧ ∀ t, wordB w l.length = true → argsT l = some t → q = acc ++ t.tail.map toS := by
  intro acc ha
  have fin : ∀ b, wordB w l.length = !b → ∃ q, line_tokens.j2 (k + 1) acc b L w l = some (q, wordB w l.length && (argsT l).isSome) ∧ ∀ t, wordB w l.length = true → argsT l = some t → q = acc ++ t.tail.map toS := by
   intro b hb
   rw [line_tokens.j2, hb]
   cases b with
   | true => exact ⟨_, rfl, fun t h => by cases h⟩
   | false =>
    rw [if_neg (by simp)]
    have hl8 : l.length ≤ 8 := by
     unfold wordB at hb
     simp only [Bool.not_false, Bool.and_eq_true, decide_eq_true_eq] at hb
     exact hb.1
    have := args_loop l (by omega) ok l.length 0 k acc (by omega) (by omega) (by omega)
    rw [List.drop_zero] at this
    cases hq : argsT l with
    | none =>
     obtain ⟨q, hq2⟩ := this.1 hq
     exact ⟨q, hq2, fun t _ h => by cases h⟩
    | some p => exact ⟨_, this.2 p hq, fun t _ h => by cases h; rfl⟩
  rw [line_tokens.j1]
  by_cases c8 : (l.length : Int) > 8
  ·
   rw [if_pos c8]
   exact fin true (by unfold wordB; rw [decide_eq_false (by omega)]; rfl)
  rw [if_neg c8]
  by_cases cw : w.toList = ([] : List UInt8)
  ·
   rw [if_pos cw]
   refine fin _ ?_
   unfold wordB
   rw [decide_eq_true (by omega), if_pos (tok_nil.1 cw), Bool.true_and, ← decide_not]
   exact decide_eq_decide.2 (by omega)
  ·
   rw [if_neg cw, lname_f w hw (k + 1) (by omega)]
   simp only [Option.bind_some]
   have e : wordB w l.length = plainL w.data.toList := by
    unfold wordB
    rw [decide_eq_true (by omega), if_neg (fun h => cw (tok_nil.2 h)), Bool.true_and]
   cases hp : plainL w.data.toList with
   | true =>
    rw [if_pos rfl]
    exact fin false (by rw [e, hp]; rfl)
   | false =>
    rw [if_neg (by simp)]
    exact fin true (by rw [e, hp]; rfl)
 unfold tailV
 by_cases cw : w.toList = ([] : List UInt8)
 ·
  rw [if_pos cw]
  obtain ⟨q, h1, h2⟩ := key acc (by omega)
  refine ⟨q, h1, fun t h h' => ?_⟩
  unfold wordT
  rw [h2 t h h', if_pos (tok_nil.1 cw), List.map_nil, List.append_nil]
 ·
  rw [if_neg cw]
  simp only [line_word.f, Option.bind_some]
  rw [if_pos (by omega)]
  obtain ⟨q, h1, h2⟩ := key (acc ++ [⟨1, w, 0⟩]) (by simp only [List.length_append, List.length_cons, List.length_nil]; omega)
  refine ⟨q, h1, fun t h h' => ?_⟩
  unfold wordT
  rw [h2 t h h', if_neg (fun h => cw (tok_nil.2 h))]
  simp [toS]
theorem tokensL_f (L : List ByteArray) (w : ByteArray) (l : List A) (hL : L.length ≤ 1000) (hs : ∀ s ∈ L, s.size ≤ 100000) (hw : w.size ≤ 100000) (ok : ∀ x ∈ l, okA x) (k : Nat) (hk : 4000000 ≤ k) :
  ∃ q, line_tokens.f k L w l = some (q, (lineT L w l).isSome) ∧ ∀ t, lineT L w l = some t → q = t.map toS := by
 unfold line_tokens.f lineT
 have h := labs_loop L w l (by omega) hs 3000000 L.length 0 k [] (by omega) (by omega) (by show 0 + _ ≤ _; omega)
 rw [List.drop_zero] at h
 cases hp : labsT (L.map (·.data.toList)) with
 | none => exact ⟨_, h.1 hp, fun t h => by cases h⟩
 | some p =>
  obtain ⟨k', hk', e⟩ := h.2 p hp
  have hpl : p.length ≤ 2 * L.length := by
   have : ∀ (l : List (List UInt8)) p, labsT l = some p → p.length = 2 * l.length := by
    intro l
    induction l with
    | nil => intro p h; cases h; rfl
    | cons s r ih =>
     intro p h
     rw [labsT] at h
     cases hl : labelL s with
     | none => rw [hl] at h; cases h
     | some t =>
      rw [hl] at h
      cases hr : labsT r with
      | none => rw [hr] at h; cases h
      | some q =>
       rw [hr] at h
       cases h
       have := ih q hr
       simp only [List.length_cons]
       omega
   have := this _ _ hp
   rw [List.length_map] at this
   omega
  obtain ⟨q, h1, h2⟩ := tail_f w hw L l ok k' hk' ([] ++ p.map toS) (by rw [List.nil_append, List.length_map]; omega)
  rw [show ((0 : Nat) : Int) = 0 from rfl] at e
  rw [e, h1]
  simp only
  cases hb : wordB w l.length with
  | false => exact ⟨_, rfl, fun t h => by cases h⟩
  | true =>
   rw [if_pos rfl]
   cases ha : argsT l with
   | none => exact ⟨_, rfl, fun t h => by cases h⟩
   | some t =>
    refine ⟨_, rfl, fun t' h => ?_⟩
    cases h
    rw [h2 t hb ha]
    simp
end Go.Proofs.YtbfndlfemhidaaaGreatDoor.LnW
