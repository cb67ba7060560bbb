/- Whether an expression may be, and its tokens, are the document's. -/
import Derived.Test.YtgihgmniijhfoaaDoorPx15
import Derived.Test.YtgihgmniijhfoaaDoorZRef16a
namespace Go.Proofs.YtgihgmniijhfoaaDoor.Pure
open Go.RowKit Go.Proofs.YtgihgmniijhfoaaDoor.P Go.Proofs.YtgihgmniijhfoaaDoor.Lex Go.Proofs.YtgihgmniijhfoaaDoor.Ex Go.Proofs.YtgihgmniijhfoaaDoor.ZU Go.Proofs.YtgihgmniijhfoaaDoorW.PrintWords Go.Proofs.YtgihgmniijhfoaaDoorW.PrintLast
set_option linter.unusedSimpArgs false
set_option linter.unusedVariables false
theorem tells_ok (a0 a1 : ByteArray) (a2 a3 : Int) (h0 : a0.size ≤ 1000) (h1 : a1.size ≤ 1000) (h3 : 0 ≤ a3 ∧ a3 ≤ 255) :
    quoinlaw16_ExprTells.j0 (2000000 + 1) false a0 a1 a2 a3 = some true := by
  obtain ⟨m, rfl⟩ := Int.eq_ofNat_of_zero_le h3.1
  obtain ⟨x, hx⟩ : ∃ x : X, x = ⟨a0.data.toList, a1.data.toList, a2, m⟩ := ⟨_, rfl⟩
  have e0 : a0 = ⟨x.s.toArray⟩ := by subst hx; exact (arr_list a0).symm
  have e1 : a1 = ⟨x.l.toArray⟩ := by subst hx; exact (arr_list a1).symm
  have e2 : a2 = x.n := by rw [hx]
  have e3 : (m : Int) = (x.m : Int) := by rw [hx]
  have s1 : x.s.length ≤ 1000000 := by rw [hx]; show a0.data.toList.length ≤ 1000000; rw [list_len]; omega
  have s2 : x.l.length ≤ 1000000 := by rw [hx]; show a1.data.toList.length ≤ 1000000; rw [list_len]; omega
  have s3 : x.m ≤ 255 := by omega
  obtain ⟨K, hK⟩ : ∃ K, 2000000 = K + 2 := ⟨1999998, rfl⟩
  have hr : quoinref16_Tokens.f 2000000 ⟨x.s.toArray⟩ ⟨x.l.toArray⟩ x.n (x.m : Int) = some (if checkL x then ((toksX x).map TK.tkS, 0) else ([], 8)) := by
    unfold quoinref16_Tokens.f
    rw [ZR.may_ref x s1 s2 2000000 (by omega)]
    simp only [Option.bind_some]
    cases hc : checkL x with
    | false => rfl
    | true =>
      rw [if_pos rfl, if_pos rfl, hK, ZR.told_ref x hc K]
      rfl
  have hk : quoinref16_Check.f 2000000 ⟨x.s.toArray⟩ ⟨x.l.toArray⟩ x.n (x.m : Int) = some (if checkL x then 0 else 8) := by
    unfold quoinref16_Check.f
    rw [ZR.may_ref x s1 s2 2000000 (by omega)]
    simp only [Option.bind_some]
    cases checkL x <;> rfl
  clear hK
  rw [quoinlaw16_ExprTells.j0, if_neg (by simp), e0, e1, e2, e3, tokens_x x s1 s2 s3]
  simp only [Option.bind_some]
  rw [hr, TK.check_f x ⟨s1, s2, by omega⟩, hk]
  simp only [Option.bind_some]
  have same : ∀ l : List S41, l.length ≤ 10 → quoinref15_Same.f 2000000 l l = some true := fun l hl => ZR.same_f l (by omega) 2000000 (by omega)
  cases hc : checkL x with
  | false =>
    rw [if_neg (by simp), same [] (by simp)]
    rfl
  | true =>
    rw [if_pos rfl, same _ (by have := toks_len x; rw [List.length_map]; omega)]
    rfl
theorem wfu8 {x : Int} (h : (Lit.int .u8 x).wf = true) : 0 ≤ x ∧ x ≤ 255 := by
  simp [Lit.wf, IntKind.min, IntKind.max, IntKind.signed, IntKind.bits] at h
  omega
theorem ExprTells : quoinlaw16_ExprTells.Pure := by
  intro a0 a1 a2 a3 _ _ h2 h3
  refine ⟨2000000 + 1, ?_⟩
  have stop : quoinlaw16_ExprTells.j0 (2000000 + 1) true a0 a1 a2 a3 = some true := by rw [quoinlaw16_ExprTells.j0]; rfl
  unfold quoinlaw16_ExprTells.f
  by_cases c0 : (a0.size : Int) > 1000
  · rw [if_pos c0]
    exact stop
  rw [if_neg c0]
  by_cases c1 : (a1.size : Int) > 1000
  · rw [decide_eq_true c1]
    exact stop
  rw [decide_eq_false c1]
  exact tells_ok a0 a1 a2 a3 (by omega) (by omega) (wfu8 h3)
end Go.Proofs.YtgihgmniijhfoaaDoor.Pure
