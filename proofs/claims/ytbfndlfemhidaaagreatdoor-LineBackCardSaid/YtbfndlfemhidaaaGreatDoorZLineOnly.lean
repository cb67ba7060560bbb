/- Texts of this seat in one (ZLineOnly), what nothing speaks of left out: by pack.py, a program of this session. -/
import Derived.Test.YtbfndlfemhidaaaGreatDoorZLineCore
/- What is read may be, and is read again as it is: plain Lean on lists. -/
namespace Go.Proofs.YtbfndlfemhidaaaGreatDoor.LnW
open Go.RowKit Go.Proofs.YtbfndlfemhidaaaGreatDoor.LexP Go.Proofs.YtbfndlfemhidaaaGreatDoor.P Go.Proofs.YtbfndlfemhidaaaGreatDoor.P.ZT Go.Proofs.YtbfndlfemhidaaaGreatDoor.P.LD Go.Proofs.YtbfndlfemhidaaaGreatDoorW.PrintWords Go.Proofs.YtbfndlfemhidaaaGreatDoorW.PrintLast Go.Proofs.YtbfndlfemhidaaaGreatDoorW.PrintMore Go.Proofs.YtbfndlfemhidaaaGreatDoor.Lex Go.Proofs.YtbfndlfemhidaaaGreatDoor.Ex Go.Proofs.YtbfndlfemhidaaaGreatDoor.Li
set_option linter.unusedVariables false
set_option linter.unusedSimpArgs false
theorem labs_len : ∀ (l : List (List UInt8)) (p : List Tok), labsT l = some p → p.length = 2 * l.length
 | [], p, h => by cases h; rfl
 | s :: r, p, h => by
  rw [labsT] at h
  cases hl : labelL s with
  | none => rw [hl] at h; cases h
  | some t =>
   rw [hl] at h
   cases hr : labsT r with
   | none => rw [hr] at h; cases h
   | some q =>
    rw [hr] at h
    cases h
    have := labs_len r q hr
    simp only [List.length_cons]
    omega
theorem told_k {x : A} {t : List Tok} (h : toldT x = some t) : ∃ y r, t = y :: r ∧ y.k ≠ 4 := by
 unfold toldT at h
 split at h
 ·
  split at h
  ·
   cases h; exact ⟨_, _, rfl, by simp⟩
  ·
   cases h
 split at h
 ·
  split at h
  ·
   cases h; exact ⟨_, _, rfl, by simp [calT]⟩
  ·
   cases h
 split at h
 ·
  split at h
  ·
   rename_i hc
   cases h
   obtain ⟨t, r, e, _, h4, _⟩ := toks_head hc.2
   exact ⟨t, r, e, h4⟩
  ·
   cases h
 split at h
 ·
  split at h
  ·
   rename_i hc
   cases h
   obtain ⟨t, r, e, _, h4, _⟩ := toks_head hc.2.1
   exact ⟨t, _, by rw [e]; rfl, h4⟩
  ·
   cases h
 ·
  cases h
theorem labs_map (L : List ByteArray) : (L.map (·.data.toList)).map (fun s => (⟨s.toArray⟩ : ByteArray)) = L := by
 rw [List.map_map]
 conv => rhs; rw [← List.map_id L]
 exact List.map_congr_left fun x _ => arr_back x
theorem read_back {L : List ByteArray} {w : ByteArray} {l : List A} (ok : okL L w l) {t : List Tok} (h : lineT L w l = some t) (hm : t.all mayL = true) : readB (t.map toS) = ((L, w, l), 0) := by
 obtain ⟨p, q, hp, hb, hq, rfl⟩ := line_parts h
 have hpl := labs_len _ _ hp
 rw [List.length_map] at hpl
 have hu : ¬ (wordT w ++ q.tail)[1]? = some (mk 58) := by
  unfold wordT
  by_cases cw : w.data.toList = []
  ·
   have hl : l = [] := by
    unfold wordB at hb
    rw [if_pos cw] at hb
    simp only [Bool.and_eq_true, decide_eq_true_eq] at hb
    exact List.length_eq_zero_iff.1 hb.2
   subst hl
   cases hq
   rw [if_pos cw]
   simp
  ·
   rw [if_neg cw]
   cases l with
   | nil => cases hq; simp
   | cons x r =>
    rw [argsT] at hq
    cases ht : toldT x with
    | none => rw [ht] at hq; cases hq
    | some t =>
     rw [ht] at hq
     cases hr : argsT r with
     | none => rw [hr] at hq; cases hq
     | some q' =>
      rw [hr] at hq
      cases hq
      obtain ⟨y, r', rfl, hy⟩ := told_k ht
      intro e
      have e : some y = some (mk 58) := e
      injection e with e
      rw [e] at hy
      exact hy rfl
 have hl := labels_back (L.map (·.data.toList)) p hp (fun s hs => by
  obtain ⟨b, hb, rfl⟩ := List.mem_map.1 hs
  have := ok.s b hb
  rw [size_data]; omega) [] (wordT w ++ q.tail) [] ((p ++ wordT w ++ q.tail).length + 1) (by simp only [List.length_map, List.length_append]; omega) hu
 rw [labs_map, List.nil_append, List.nil_append, List.append_assoc, show ([] : List Tok).length = 0 from rfl] at hl
 unfold readB
 rw [List.length_map, List.append_assoc] at *
 rw [hl]
 simp only
 by_cases cw : w.data.toList = []
 ·
  have hl : l = [] := by
   unfold wordB at hb
   rw [if_pos cw] at hb
   simp only [Bool.and_eq_true, decide_eq_true_eq] at hb
   exact List.length_eq_zero_iff.1 hb.2
  subst hl
  cases hq
  have e : wordT w = [] := if_pos cw
  have ew : w = ⟨#[]⟩ := by
   have := arr_back w
   rw [cw] at this
   exact this.symm
  rw [e, ew]
  simp
 ·
  have e : wordT w = [⟨1, w.data.toList, 0⟩] := if_neg cw
  have hpw : plainL w.data.toList = true := by
   unfold wordB at hb
   rw [if_neg cw] at hb
   simp only [Bool.and_eq_true, decide_eq_true_eq] at hb
   exact hb.2
  have h8 : l.length ≤ 8 := by
   unfold wordB at hb
   simp only [Bool.and_eq_true, decide_eq_true_eq] at hb
   exact hb.1
  rw [e] at hm ⊢
  rw [List.getElem?_map, List.cons_append, at_pre, Option.map_some]
  simp only
  rw [if_pos (plainB_of _ hpw)]
  have hall := args_back (p ++ (⟨1, w.data.toList, 0⟩ : Tok) :: ([] ++ q.tail)) (by rw [List.cons_append] at hm; exact hm) l q hq ok.a (p ++ [(⟨1, w.data.toList, 0⟩ : Tok)]) [] ((p ++ (⟨1, w.data.toList, 0⟩ : Tok) :: ([] ++ q.tail)).length + 1) (by rw [if_pos rfl]; simp) (by simpa using h8) (by
   have : l.length ≤ q.length := by
    clear hb hu hl hm h8 e hpw ok h
    revert q
    induction l with
    | nil => intro q hq; exact Nat.zero_le _
    | cons x r ih =>
     intro q hq
     rw [argsT] at hq
     cases ht : toldT x with
     | none => rw [ht] at hq; cases hq
     | some t =>
      rw [ht] at hq
      cases hr : argsT r with
      | none => rw [hr] at hq; cases hq
      | some q' =>
       rw [hr] at hq
       cases hq
       have := ih q' hr
       simp only [List.length_cons, List.length_append]
       omega
   simp only [List.length_append, List.length_cons, List.length_tail, List.nil_append]
   omega)
  rw [show (p ++ [(⟨1, w.data.toList, 0⟩ : Tok)]).length = p.length + 1 by simp] at hall
  simp only [List.nil_append] at hall ⊢
  rw [hall]
  simp [toS]
theorem nil_t : ((⟨#[]⟩ : ByteArray).toList == ([] : List UInt8)) = true := by rw [ByteArray.toList_eq]; rfl
end Go.Proofs.YtbfndlfemhidaaaGreatDoor.LnW
