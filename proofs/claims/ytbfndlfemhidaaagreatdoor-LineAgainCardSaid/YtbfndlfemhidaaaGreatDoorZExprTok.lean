/- Texts of this seat in one (ZExprTok), what nothing speaks of left out: by pack.py, a program of this session. -/
import Derived.Test.YtbfndlfemhidaaaGreatDoorPx6
import Derived.Test.YtbfndlfemhidaaaGreatDoorK1
/- What the printed functions of package expr tell, in words of the plain laws. -/
namespace Go.Proofs.YtbfndlfemhidaaaGreatDoor.ZU
open Go.RowKit Go.Proofs.YtbfndlfemhidaaaGreatDoor.LexP Go.Proofs.YtbfndlfemhidaaaGreatDoor.P Go.Proofs.YtbfndlfemhidaaaGreatDoor.Lex Go.Proofs.YtbfndlfemhidaaaGreatDoor.Ex Go.Proofs.YtbfndlfemhidaaaGreatDoorW.PrintWords Go.Proofs.YtbfndlfemhidaaaGreatDoorW.PrintLast
set_option linter.unusedSimpArgs false
set_option linter.unusedVariables false
theorem word_len {s : List UInt8} (h : wordL s = true) : s.length ≤ 40 := by
 have := word_may h
 rw [Bool.or_eq_true] at this
 rcases this with h | h
 ·
  cases s with
  | nil => simp
  | cons c t =>
   simp only [nameL, Bool.and_eq_true, decide_eq_true_eq] at h
   simp only [List.length_cons]
   omega
 ·
  simp only [localL, Bool.and_eq_true, decide_eq_true_eq] at h
  omega
theorem may_len {s : List UInt8} (h : s = [] ∨ wordL s = true) : s.length ≤ 40 := by
  rcases h with rfl | h
  · simp
  · exact word_len h
theorem check_len {x : X} (h : checkL x = true) : x.s.length ≤ 40 ∧ x.l.length ≤ 40 ∧ x.m ≤ 4 := by
 obtain ⟨hs, hl, hm⟩ := check_parts h
 exact ⟨may_len hs, may_len (hl.elim .inl fun h => .inr h.2), hm⟩
theorem toks_size {x : X} (h : checkL x = true) : ∀ t ∈ toksX x, t.t.length ≤ 40 := by
 obtain ⟨hs, hl, hm⟩ := check_len h
 have nm : ∀ m, (modName m).length ≤ 40 := by
  intro m
  unfold modName
  split <;> simp
 have mk : ∀ c, (mk c).t.length ≤ 40 := fun c => by simp [mk]
 intro t ht
 unfold toksX at ht
 simp only [List.mem_append] at ht
 rcases ht with (((ht | ht) | ht) | ht) | ht <;> split at ht <;> simp only [List.mem_cons, List.not_mem_nil, or_false, List.mem_append] at ht
 ·
  rcases ht with rfl | rfl
  ·
   exact nm _
  ·
   exact mk _
 ·
  subst ht; exact hs
 ·
  rcases ht with rfl | rfl
  ·
   exact mk _
  ·
   exact hl
 ·
  rcases ht with ht | rfl
  ·
   split at ht
   ·
    simp only [List.mem_cons, List.not_mem_nil, or_false] at ht
    subst ht; exact mk _
   ·
    cases ht
  ·
   simp
 ·
  subst ht; exact mk _
theorem toks_len (x : X) : (toksX x).length ≤ 8 := by
 unfold toksX
 simp only [List.length_append]
 repeat' split
 all_goals simp
theorem tl (l : List UInt8) : (⟨l.toArray⟩ : ByteArray).toList = l := by rw [ByteArray.toList_eq]
end Go.Proofs.YtbfndlfemhidaaaGreatDoor.ZU
