/- What the printed functions of package expr tell, in words of the plain laws. -/
import Derived.Test.YtgihgmniijhfoaaDoorPx6
import Derived.Test.YtgihgmniijhfoaaDoorPx10
import Derived.Test.YtgihgmniijhfoaaDoorPx11
import Derived.Test.YtgihgmniijhfoaaDoorPx9
import Derived.Test.YtgihgmniijhfoaaDoorZE
namespace Go.Proofs.YtgihgmniijhfoaaDoor.ZU
open Go.RowKit Go.Proofs.YtgihgmniijhfoaaDoor.P Go.Proofs.YtgihgmniijhfoaaDoor.Lex Go.Proofs.YtgihgmniijhfoaaDoor.Ex Go.Proofs.YtgihgmniijhfoaaDoorW.PrintWords Go.Proofs.YtgihgmniijhfoaaDoorW.PrintLast
set_option linter.unusedSimpArgs false
set_option linter.unusedVariables false
theorem tok_back (t : Tok) : ZT.toTok (TK.tkS t) = t := by
  obtain ⟨k, s, n⟩ := t
  simp [ZT.toTok, TK.tkS]
theorem toks_back (l : List Tok) : (l.map TK.tkS).map ZT.toTok = l := by
  rw [List.map_map]
  have : ZT.toTok ∘ TK.tkS = id := funext tok_back
  rw [this, List.map_id]
theorem parse_f (l : List S41) (ok : okB l) (a : Int) {y : X} {n e : Nat} (h : parseL (l.map ZT.toTok) a = (y, n, e)) :
    expr_Parse.f l a = some (⟨y.s.toArray⟩, ⟨y.l.toArray⟩, y.n, (y.m : Int), (n : Int), (e : Int)) := by
  unfold expr_Parse.f
  rw [if_pos ok, h]
theorem word_len {s : List UInt8} (h : wordL s = true) : s.length ≤ 40 := by
  have := word_may h
  rw [Bool.or_eq_true] at this
  rcases this with h | h
  · cases s with
    | nil => simp
    | cons c t =>
      simp only [nameL, Bool.and_eq_true, decide_eq_true_eq] at h
      simp only [List.length_cons]
      omega
  · simp only [localL, Bool.and_eq_true, decide_eq_true_eq] at h
    omega
theorem may_len {s : List UInt8} (h : s = [] ∨ wordL s = true) : s.length ≤ 40 := by
  rcases h with rfl | h
  · simp
  · exact word_len h
theorem check_len {x : X} (h : checkL x = true) : x.s.length ≤ 40 ∧ x.l.length ≤ 40 ∧ x.m ≤ 4 := by
  obtain ⟨hs, hl, hm⟩ := check_parts h
  exact ⟨may_len hs, may_len (hl.elim .inl fun h => .inr h.2), hm⟩
theorem size_arr (l : List UInt8) : (⟨l.toArray⟩ : ByteArray).size = l.length := by show l.toArray.size = l.length; simp
theorem arr_list (s : ByteArray) : (⟨s.data.toList.toArray⟩ : ByteArray) = s := by simp
theorem list_len (s : ByteArray) : s.data.toList.length = s.size := by rw [Array.length_toList]; rfl
theorem tokens_x (x : X) (h1 : x.s.length ≤ 1000000) (h2 : x.l.length ≤ 1000000) (h3 : x.m ≤ 255) :
    expr_Tokens.f ⟨x.s.toArray⟩ ⟨x.l.toArray⟩ x.n (x.m : Int) = some (if checkL x then ((toksX x).map TK.tkS, 0) else ([], 8)) := by
  unfold expr_Tokens.f
  rw [if_pos ⟨by rw [size_arr]; exact h1, by rw [size_arr]; exact h2, by omega, by omega⟩]
  rfl
theorem toks_size {x : X} (h : checkL x = true) : ∀ t ∈ toksX x, t.t.length ≤ 40 := by
  obtain ⟨hs, hl, hm⟩ := check_len h
  have nm : ∀ m, (modName m).length ≤ 40 := by
    intro m
    unfold modName
    split <;> simp
  have mk : ∀ c, (mk c).t.length ≤ 40 := fun c => by simp [mk]
  intro t ht
  unfold toksX at ht
  simp only [List.mem_append] at ht
  rcases ht with (((ht | ht) | ht) | ht) | ht <;> split at ht <;> simp only [List.mem_cons, List.not_mem_nil, or_false, List.mem_append] at ht
  · rcases ht with rfl | rfl
    · exact nm _
    · exact mk _
  · subst ht; exact hs
  · rcases ht with rfl | rfl
    · exact mk _
    · exact hl
  · rcases ht with ht | rfl
    · split at ht
      · simp only [List.mem_cons, List.not_mem_nil, or_false] at ht
        subst ht; exact mk _
      · cases ht
    · simp
  · subst ht; exact mk _
theorem toks_len (x : X) : (toksX x).length ≤ 8 := by
  unfold toksX
  simp only [List.length_append]
  repeat' split
  all_goals simp
theorem toks_ok {x : X} (h : checkL x = true) (hn : numX x) : okB ((toksX x).map TK.tkS) := by
  refine ⟨by have := toks_len x; rw [List.length_map]; omega, fun s hs => ?_⟩
  obtain ⟨t, ht, rfl⟩ := List.mem_map.1 hs
  have h1 := toks_size h t ht
  have h2 := (toks_may h hn t ht).2
  exact ⟨Int.natCast_nonneg _, by show (⟨t.t.toArray⟩ : ByteArray).size ≤ 1000000; rw [size_arr]; omega, h2.1, h2.2⟩
theorem ok_app {l r : List S41} (hl : okB l) (hr : okB r) (h : l.length + r.length ≤ 1000000000000) : okB (l ++ r) :=
  ⟨by rw [List.length_append]; exact h, fun x hx => (List.mem_append.1 hx).elim (hl.2 x) (hr.2 x)⟩
theorem ok_take {l : List S41} (hl : okB l) (n : Nat) : okB (l.take n) :=
  ⟨by have := hl.1; rw [List.length_take]; omega, fun x hx => hl.2 x (List.mem_of_mem_take hx)⟩
theorem alive_f : quoinlaw16_alive.f = some true := by decide +kernel
theorem tl (l : List UInt8) : (⟨l.toArray⟩ : ByteArray).toList = l := by rw [ByteArray.toList_eq]
theorem wf_tok {x : S41} (h : wfS41 x) : 0 ≤ x.f0 ∧ -9223372036854775808 ≤ x.f2 ∧ x.f2 < 9223372036854775808 := by
  have h0 := h.1
  have h2 := h.2.2
  simp [Lit.wf, IntKind.min, IntKind.max, IntKind.signed, IntKind.bits] at h0 h2
  omega
theorem ok_great {l : List S41} (hw : ∀ x ∈ l, wfS41 x) (hl : l.length ≤ 200) (hs : ∀ x ∈ l, x.f1.size ≤ 20000) : okB l :=
  ⟨by omega, fun x hx => ⟨(wf_tok (hw x hx)).1, by have := hs x hx; omega, (wf_tok (hw x hx)).2⟩⟩
end Go.Proofs.YtgihgmniijhfoaaDoor.ZU
