/- SymKinds: a symbol may be just as its bind and its place tell; for any symbol. -/
import Derived.Test.YtomabnfeipobnaaZSymAlive
import Derived.Test.YtomabnfeipobnaaPx34
namespace Go.Proofs.Ytomabnfeipobnaa.Pure
open Go.RowKit Go.Proofs.Ytomabnfeipobnaa.P Go.Proofs.YtomabnfeipobnaaW.PrintWords Go.Proofs.YtomabnfeipobnaaW.PrintLast Go.Proofs.Ytomabnfeipobnaa.Z
set_option linter.unusedSimpArgs false
set_option linter.unusedVariables false
theorem a_eq (bind : Int) (hid : Bool) (whr val size : Int) (k : Nat) (hk : 10 ≤ k) :
    sym_Check.f k (⟨#[97]⟩ : ByteArray) bind hid whr val size 16 = some (if standsOk bind hid whr val size 16 = true then 0 else 8) := by
  rw [symcheck_eq _ _ _ _ _ _ _ (by decide) k (by have : (⟨#[97]⟩ : ByteArray).size = 1 := rfl; omega)]
  unfold symAns
  have : nameOk (⟨#[97]⟩ : ByteArray) = true := by decide +kernel
  rw [if_pos (by omega), this, Bool.true_and]
theorem zero8 (b : Bool) : ((if b = true then (0 : Int) else 8) = 0) = (b = true) := by cases b <;> simp
theorem kinds_j1 (bind : Int) (hb0 : 0 ≤ bind) (hid : Bool) (whr val size : Int) (k : Nat) (hk : 10 ≤ k) :
    quoinlaw10_SymKinds.j1 (k + 1) true (decide (bind ≤ 2) && (!hid || decide (bind > 0))) (decide (1 ≤ whr ∧ whr ≤ 16)) (⟨#[97]⟩ : ByteArray) bind hid whr val size = some true := by
  simp only [quoinlaw10_SymKinds.j1, a_eq _ _ _ _ _ k hk, Option.bind_some, if_true, zero8, standsOk]
  by_cases hb : bind ≤ 2 ∧ (hid = true → bind > 0)
  · have h1 : (decide (bind ≤ 2) && (!hid || decide (bind > 0))) = true := by
      cases hid
      · simp [hb.1]
      · simp [hb.1, hb.2 rfl]
    have h2 : ¬ (bind > 2 ∨ (hid = true ∧ bind = 0)) := by
      rintro (h | h)
      · omega
      · have := hb.2 h.1; omega
    rw [h1]
    simp only [if_neg h2, if_true]
    by_cases w1 : 1 ≤ whr ∧ whr ≤ 16
    · rw [decide_eq_true w1]
      have n0 : ¬ whr = 0 := by omega
      have n1 : ¬ whr = -1 := by omega
      have n2 : ¬ whr = -2 := by omega
      simp only [if_neg n0, if_neg n1, if_neg n2, if_true]
      by_cases v0 : val ≥ 0
      · rw [if_pos v0]
        by_cases v1 : val ≤ 4096
        · rw [if_pos v1]
          by_cases s0 : size ≥ 0
          · rw [if_pos s0]
            by_cases s1 : size ≤ 4096
            · simp [s1, v1, v0, s0, w1]
            · simp [s1]
          · rw [if_neg s0]
            simp
            omega
        · rw [if_neg v1]
          simp
          omega
      · rw [if_neg v0]
        simp
        omega
    · rw [decide_eq_false w1]
      simp only [Bool.false_eq_true, if_false]
      by_cases n0 : whr = 0
      · simp only [if_pos n0]
        by_cases v0 : val = 0
        · rw [if_pos v0]
          by_cases s0 : size = 0
          · rw [if_pos s0]
            by_cases b0 : bind > 0
            · simp [b0, v0, s0]; omega
            · have b00 : bind = 0 := by omega
              simp [v0, s0, b00]
          · rw [if_neg s0]
            simp [s0]
        · rw [if_neg v0]
          simp [v0]
      · simp only [if_neg n0]
        by_cases n1 : whr = -1
        · simp only [if_pos n1]
          by_cases v0 : val ≥ -2147483648
          · rw [if_pos v0]
            by_cases v1 : val < 4294967296
            · rw [if_pos v1]
              by_cases s0 : size = 0
              · simp [s0, v0]; omega
              · simp [s0]
            · rw [if_neg v1]
              simp
              omega
          · rw [if_neg v0]
            simp
            omega
        · simp only [if_neg n1]
          by_cases n2 : whr = -2
          · simp only [if_pos n2]
            have fin : ∀ al : Bool, al = true → (if size ≥ 1 then if size ≤ 4096 then if (if (al && decide (1 ≤ size ∧ size ≤ 4096 ∧ bind = 1)) = true then (0 : Int) else 8) = 0 then some (bind == 1) else some (!bind == 1)
                else if (if (al && decide (1 ≤ size ∧ size ≤ 4096 ∧ bind = 1)) = true then (0 : Int) else 8) = 0 then none else some true
                else if (if (al && decide (1 ≤ size ∧ size ≤ 4096 ∧ bind = 1)) = true then (0 : Int) else 8) = 0 then none else some true) = some true := by
              intro al hal
              subst hal
              by_cases s0 : size ≥ 1
              · rw [if_pos s0]
                by_cases s1 : size ≤ 4096
                · rw [if_pos s1]
                  by_cases b1 : bind = 1
                  · simp [b1, s1]; omega
                  · simp [b1]
                · rw [if_neg s1]; simp; omega
              · rw [if_neg s0]; simp; omega
            by_cases a1 : val = 1
            · rw [if_pos a1]; exact fin _ ((alignOk_iff val).2 (by omega))
            rw [if_neg a1]
            by_cases a2 : val = 2
            · rw [if_pos a2]; exact fin _ ((alignOk_iff val).2 (by omega))
            rw [if_neg a2]
            by_cases a4 : val = 4
            · rw [if_pos a4]; exact fin _ ((alignOk_iff val).2 (by omega))
            rw [if_neg a4]
            by_cases a8 : val = 8
            · rw [if_pos a8]; exact fin _ ((alignOk_iff val).2 (by omega))
            rw [if_neg a8]
            by_cases a16 : val = 16
            · rw [if_pos a16]; exact fin _ ((alignOk_iff val).2 (by omega))
            rw [if_neg a16]
            by_cases a32 : val = 32
            · rw [if_pos a32]; exact fin _ ((alignOk_iff val).2 (by omega))
            rw [if_neg a32]
            by_cases a64 : val = 64
            · rw [if_pos a64]; exact fin _ ((alignOk_iff val).2 (by omega))
            rw [if_neg a64]
            have an : alignOk val = false := by
              cases h : alignOk val with
              | false => rfl
              | true => have := (alignOk_iff val).1 h; omega
            simp [an]
          · simp only [if_neg n2]
            have : decide (1 ≤ whr ∧ whr ≤ 16 ∧ 0 ≤ val ∧ val ≤ 4096 ∧ 0 ≤ size ∧ size ≤ 4096) = false := decide_eq_false (by omega)
            simp [this]
  · have h1 : (decide (bind ≤ 2) && (!hid || decide (bind > 0))) = false := by
      cases hid
      · simp at hb ⊢; omega
      · simp at hb ⊢; omega
    have h3 : bind > 2 ∨ (hid = true ∧ bind = 0) := by
      cases hid
      · simp at hb; exact .inl (by omega)
      · simp at hb; simp; omega
    rw [h1]
    simp only [if_pos h3, Bool.false_eq_true, if_false]
    repeat' split
    all_goals first | rfl | (exfalso; omega)
theorem SymKinds : quoinlaw10_SymKinds.Pure := by
  intro name bind hid whr val size hs hb _ _ _
  refine ⟨100, ?_⟩
  have hb0 := (wfu8 hb).1
  have J := kinds_j1 bind hb0 hid whr val size 98 (by omega)
  have J0 : quoinlaw10_SymKinds.j0 100 true (decide (bind ≤ 2) && (!hid || decide (bind > 0))) (⟨#[97]⟩ : ByteArray) bind hid whr val size = some true := by
    simp only [quoinlaw10_SymKinds.j0]
    by_cases h : whr ≥ 1
    · rw [if_pos h]
      rw [show decide (1 ≤ whr ∧ whr ≤ 16) = decide (whr ≤ 16) from decide_eq_decide.mpr (by omega)] at J
      exact J
    · rw [if_neg h]
      rw [decide_eq_false (show ¬ (1 ≤ whr ∧ whr ≤ 16) by omega)] at J
      exact J
  unfold quoinlaw10_SymKinds.f
  rw [alive_eq _ (by omega)]
  simp only [Option.bind_some]
  by_cases h : bind ≤ 2
  · rw [if_pos h]
    cases hid
    · rw [if_neg (by simp)]
      simp only [decide_eq_true h, Bool.not_false, Bool.true_or, Bool.and_true] at J0
      exact J0
    · rw [if_pos rfl]
      simp only [decide_eq_true h, Bool.not_true, Bool.false_or, Bool.true_and] at J0
      exact J0
  · rw [if_neg h]
    simp only [decide_eq_false h, Bool.false_and] at J0
    exact J0
end Go.Proofs.Ytomabnfeipobnaa.Pure
