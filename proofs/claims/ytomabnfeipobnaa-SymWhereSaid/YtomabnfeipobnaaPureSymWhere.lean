/- SymWhere: what may be in an object of some sections may be in one of more, and just the one of the last section may not be in one less; for any symbol and number. -/
import Derived.Test.YtomabnfeipobnaaZSymAlive
import Derived.Test.YtomabnfeipobnaaPx32
namespace Go.Proofs.Ytomabnfeipobnaa.Pure
open Go.RowKit Go.Proofs.Ytomabnfeipobnaa.P Go.Proofs.YtomabnfeipobnaaW.PrintWords Go.Proofs.YtomabnfeipobnaaW.PrintLast Go.Proofs.Ytomabnfeipobnaa.Z
set_option linter.unusedSimpArgs false
set_option linter.unusedVariables false
theorem SymWhere : quoinlaw10_SymWhere.Pure := by
  intro name bind hid whr val size n hs _ _ _ _ hn
  refine ⟨name.size + 50, ?_⟩
  have hs : name.size ≤ 9223372036854775807 := hs
  have hn := wf64 hn
  unfold quoinlaw10_SymWhere.f
  rw [alive_eq _ (by omega), symcheck_eq _ _ _ _ _ _ _ hs _ (by omega)]
  have no : n < 0 ∨ n > 15 → quoinlaw10_SymWhere.j0 (name.size + 50) n true (symAns name bind hid whr val size n) true name bind hid whr val size = some true := by
    intro h
    simp only [quoinlaw10_SymWhere.j0, if_true]
    by_cases h16 : n = 16
    · rw [if_pos h16]
    · rw [if_neg h16]
      unfold symAns
      rw [if_neg (by omega)]
      rfl
  simp only [Option.bind_some]
  by_cases h0 : n < 0
  · rw [if_pos h0]
    exact no (.inl h0)
  · rw [if_neg h0]
    by_cases h15 : n > 15
    · rw [decide_eq_true h15]
      exact no (.inr h15)
    · rw [decide_eq_false h15]
      simp only [quoinlaw10_SymWhere.j0, Bool.false_eq_true, if_false, if_true]
      rw [wrap64_id (by omega) (by omega), symcheck_eq _ _ _ _ _ _ _ hs _ (by omega)]
      simp only [Option.bind_some]
      have e1 : symAns name bind hid whr val size n = if (nameOk name && standsOk bind hid whr val size n) = true then 0 else 8 := if_pos (by omega)
      have e2 : symAns name bind hid whr val size (n + 1) = if (nameOk name && standsOk bind hid whr val size (n + 1)) = true then 0 else 8 := if_pos (by omega)
      rw [e1, e2]
      cases hm : nameOk name
      · rfl
      · simp only [Bool.true_and]
        by_cases ha : standsOk bind hid whr val size n = true
        · rw [ha]
          simp only [if_true]
          have : standsOk bind hid whr val size (n + 1) = true := by
            unfold standsOk at ha ⊢
            by_cases c : bind > 2 ∨ (hid = true ∧ bind = 0)
            · rw [if_pos c] at ha; cases ha
            · rw [if_neg c] at ha ⊢
              by_cases c1 : whr = 0
              · rw [if_pos c1] at ha ⊢; exact ha
              · rw [if_neg c1] at ha ⊢
                by_cases c2 : whr = -1
                · rw [if_pos c2] at ha ⊢; exact ha
                · rw [if_neg c2] at ha ⊢
                  by_cases c3 : whr = -2
                  · rw [if_pos c3] at ha ⊢; exact ha
                  · rw [if_neg c3, decide_eq_true_iff] at ha ⊢
                    omega
          rw [this]
          rfl
        · simp only [if_neg ha, if_neg (show ¬ ((8 : Int) = 0) by decide), if_true]
          by_cases hb : standsOk bind hid whr val size (n + 1) = true
          · rw [if_pos hb, if_neg (by decide), if_pos rfl]
            have : whr = n + 1 := by
              unfold standsOk at ha hb
              by_cases c : bind > 2 ∨ (hid = true ∧ bind = 0)
              · rw [if_pos c] at hb; cases hb
              · rw [if_neg c] at ha hb
                by_cases c1 : whr = 0
                · rw [if_pos c1] at ha hb; exact absurd hb ha
                · rw [if_neg c1] at ha hb
                  by_cases c2 : whr = -1
                  · rw [if_pos c2] at ha hb; exact absurd hb ha
                  · rw [if_neg c2] at ha hb
                    by_cases c3 : whr = -2
                    · rw [if_pos c3] at ha hb; exact absurd hb ha
                    · rw [if_neg c3, decide_eq_true_iff] at ha hb
                      omega
            rw [this]
            simp
          · rw [if_neg hb, if_pos rfl]
end Go.Proofs.Ytomabnfeipobnaa.Pure
