/- What the printed functions of package expr tell, in words of the plain laws. -/
import Derived.Test.YtgihgmniijhfoaaDoorPx10
import Derived.Test.YtgihgmniijhfoaaDoorZE
namespace Go.Proofs.YtgihgmniijhfoaaDoor.ZU
open Go.RowKit Go.Proofs.YtgihgmniijhfoaaDoor.P Go.Proofs.YtgihgmniijhfoaaDoor.Lex Go.Proofs.YtgihgmniijhfoaaDoor.Ex Go.Proofs.YtgihgmniijhfoaaDoorW.PrintWords Go.Proofs.YtgihgmniijhfoaaDoorW.PrintLast
set_option linter.unusedSimpArgs false
set_option linter.unusedVariables false
theorem word_len {s : List UInt8} (h : wordL s = true) : s.length ≤ 40 := by
  have := word_may h
  rw [Bool.or_eq_true] at this
  rcases this with h | h
  · cases s with
    | nil => simp
    | cons c t =>
      simp only [nameL, Bool.and_eq_true, decide_eq_true_eq] at h
      simp only [List.length_cons]
      omega
  · simp only [localL, Bool.and_eq_true, decide_eq_true_eq] at h
    omega
theorem may_len {s : List UInt8} (h : s = [] ∨ wordL s = true) : s.length ≤ 40 := by
  rcases h with rfl | h
  · simp
  · exact word_len h
theorem check_len {x : X} (h : checkL x = true) : x.s.length ≤ 40 ∧ x.l.length ≤ 40 ∧ x.m ≤ 4 := by
  obtain ⟨hs, hl, hm⟩ := check_parts h
  exact ⟨may_len hs, may_len (hl.elim .inl fun h => .inr h.2), hm⟩
theorem size_arr (l : List UInt8) : (⟨l.toArray⟩ : ByteArray).size = l.length := by show l.toArray.size = l.length; simp
theorem arr_list (s : ByteArray) : (⟨s.data.toList.toArray⟩ : ByteArray) = s := by simp
theorem list_len (s : ByteArray) : s.data.toList.length = s.size := by rw [Array.length_toList]; rfl
theorem tokens_x (x : X) (h1 : x.s.length ≤ 1000000) (h2 : x.l.length ≤ 1000000) (h3 : x.m ≤ 255) :
    expr_Tokens.f ⟨x.s.toArray⟩ ⟨x.l.toArray⟩ x.n (x.m : Int) = some (if checkL x then ((toksX x).map TK.tkS, 0) else ([], 8)) := by
  unfold expr_Tokens.f
  rw [if_pos ⟨by rw [size_arr]; exact h1, by rw [size_arr]; exact h2, by omega, by omega⟩]
  rfl
theorem toks_size {x : X} (h : checkL x = true) : ∀ t ∈ toksX x, t.t.length ≤ 40 := by
  obtain ⟨hs, hl, hm⟩ := check_len h
  have nm : ∀ m, (modName m).length ≤ 40 := by
    intro m
    unfold modName
    split <;> simp
  have mk : ∀ c, (mk c).t.length ≤ 40 := fun c => by simp [mk]
  intro t ht
  unfold toksX at ht
  simp only [List.mem_append] at ht
  rcases ht with (((ht | ht) | ht) | ht) | ht <;> split at ht <;> simp only [List.mem_cons, List.not_mem_nil, or_false, List.mem_append] at ht
  · rcases ht with rfl | rfl
    · exact nm _
    · exact mk _
  · subst ht; exact hs
  · rcases ht with rfl | rfl
    · exact mk _
    · exact hl
  · rcases ht with ht | rfl
    · split at ht
      · simp only [List.mem_cons, List.not_mem_nil, or_false] at ht
        subst ht; exact mk _
      · cases ht
    · simp
  · subst ht; exact mk _
theorem toks_len (x : X) : (toksX x).length ≤ 8 := by
  unfold toksX
  simp only [List.length_append]
  repeat' split
  all_goals simp
theorem tl (l : List UInt8) : (⟨l.toArray⟩ : ByteArray).toList = l := by rw [ByteArray.toList_eq]
end Go.Proofs.YtgihgmniijhfoaaDoor.ZU
