/- SectMay: a section may be just as its name, alignment and sizes are; for any section. -/
import Derived.Test.YtdhkmaiidbomdadZHeadAlive
import Derived.Test.YtdhkmaiidbomdadPx2
namespace Go.Proofs.Ytdhkmaiidbomdad.Pure
open Go.RowKit Go.Proofs.Ytdhkmaiidbomdad.P Go.Proofs.YtdhkmaiidbomdadW.PrintWords Go.Proofs.YtdhkmaiidbomdadW.PrintLast Go.Proofs.Ytdhkmaiidbomdad.Z
set_option linter.unusedSimpArgs false
set_option linter.unusedVariables false
theorem kind_range (n : List UInt8) : (kindAns n).2 = 0 ∧ 1 ≤ (kindAns n).1 ∧ (kindAns n).1 ≤ 4 ∨ (kindAns n).2 = 3 ∧ (kindAns n).1 = 0 := by
  unfold kindAns
  split
  · rename_i h
    have := kindOf_le n
    left
    refine ⟨rfl, ?_, ?_⟩
    · show (1 : Int) ≤ (kindOf n : Int)
      omega
    · show (kindOf n : Int) ≤ 4
      omega
  · exact .inr ⟨rfl, rfl⟩
theorem may_j2 (name : ByteArray) (align : Int) (data : List Int) (size : Int) (hs : name.size ≤ 9223372036854775807) (al sz : Bool) (ha : al = alignOk align) (hz : sz = sizesOk (kindAns name.data.toList).1 data.length size) (k : Nat) (hk : 10 ≤ k) :
    quoinlaw09_SectMay.j2 k true (kindAns name.data.toList).1 (kindAns name.data.toList).2 al sz name align data size = some true := by
  obtain ⟨k, rfl⟩ : ∃ m, k = m + 1 := ⟨k - 1, by omega⟩
  simp only [quoinlaw09_SectMay.j2, if_true]
  rw [check_eq _ _ _ _ hs k (by omega)]
  simp only [Option.bind_some]
  unfold sectAns
  rw [← ha, ← hz]
  rcases kind_range name.data.toList with ⟨h0, h1, h2⟩ | ⟨h0, h1⟩
  · have g1 : (kindAns name.data.toList).1 ≥ 1 := h1
    rw [if_pos h0]
    cases al <;> cases sz <;> simp [h0, g1, h2]
  · rw [if_neg (by rw [h0]; decide), if_neg (show ¬ ((if (kindAns name.data.toList).2 = 0 ∧ al = true ∧ sz = true then (0 : Int) else 8) = 0) by rw [if_neg (by rw [h0]; simp)]; decide), h1]
    rfl
theorem may_j1 (name : ByteArray) (align : Int) (data : List Int) (size : Int) (hs : name.size ≤ 9223372036854775807) (al : Bool) (ha : al = alignOk align) (k : Nat) (hk : 20 ≤ k) :
    quoinlaw09_SectMay.j1 k true (kindAns name.data.toList).1 (kindAns name.data.toList).2 al name align data size = some true := by
  obtain ⟨k, rfl⟩ : ∃ m, k = m + 1 := ⟨k - 1, by omega⟩
  simp only [quoinlaw09_SectMay.j1]
  have J := fun sz hz => may_j2 name align data size hs al sz ha hz k (by omega)
  by_cases c : (kindAns name.data.toList).1 = 4
  · rw [sizesOk_bss c] at J
    rw [if_pos c]
    by_cases c1 : (data.length : Int) = 0
    · rw [if_pos c1]
      by_cases c2 : size ≥ 0
      · rw [if_pos c2]
        by_cases c3 : size ≤ 4096
        · rw [if_pos c3]
          exact J _ (decide_eq_true (by omega)).symm
        · rw [if_neg c3]
          exact J _ (decide_eq_false (by omega)).symm
      · rw [if_neg c2]
        exact J _ (decide_eq_false (by omega)).symm
    · rw [if_neg c1]
      exact J _ (decide_eq_false (by omega)).symm
  · rw [sizesOk_not c] at J
    rw [if_neg c]
    by_cases c1 : (data.length : Int) ≤ 4096
    · rw [if_pos c1]
      refine J _ ?_
      by_cases c2 : size = 0
      · rw [c2, decide_eq_true (by omega)]
        rfl
      · rw [decide_eq_false (by omega), beq_eq_false_iff_ne]
        exact c2
    · rw [if_neg c1]
      exact J _ (decide_eq_false (by omega)).symm
theorem may_j0 (name : ByteArray) (align : Int) (data : List Int) (size : Int) (hs : name.size ≤ 9223372036854775807) (b : Bool) (k : Nat) (hk : 30 ≤ k) : quoinlaw09_SectMay.j0 k true b name align data size = some true := by
  obtain ⟨k, rfl⟩ : ∃ m, k = m + 1 := ⟨k - 1, by omega⟩
  simp only [quoinlaw09_SectMay.j0]
  cases b
  · have J := fun al ha => may_j1 name align data size hs al ha k (by omega)
    rw [if_neg (by simp), kind_eq _ hs]
    simp only [Option.bind_some]
    by_cases c1 : align = 1
    · rw [if_pos c1]; exact J _ (by rw [c1]; decide)
    rw [if_neg c1]
    by_cases c2 : align = 2
    · rw [if_pos c2]; exact J _ (by rw [c2]; decide)
    rw [if_neg c2]
    by_cases c4 : align = 4
    · rw [if_pos c4]; exact J _ (by rw [c4]; decide)
    rw [if_neg c4]
    by_cases c8 : align = 8
    · rw [if_pos c8]; exact J _ (by rw [c8]; decide)
    rw [if_neg c8]
    by_cases c16 : align = 16
    · rw [if_pos c16]; exact J _ (by rw [c16]; decide)
    rw [if_neg c16]
    by_cases c32 : align = 32
    · rw [if_pos c32]; exact J _ (by rw [c32]; decide)
    rw [if_neg c32]
    refine J _ ?_
    unfold alignOk
    by_cases c64 : align = 64 <;> simp [c1, c2, c4, c8, c16, c32, c64]
  · rw [if_pos rfl]
theorem SectMay : quoinlaw09_SectMay.Pure := by
  intro name align data size hs _ _ _
  refine ⟨100, ?_⟩
  unfold quoinlaw09_SectMay.f
  rw [alive9_eq _ (by omega)]
  simp only [Option.bind_some]
  split
  · exact may_j0 _ _ _ _ hs _ _ (by omega)
  · exact may_j0 _ _ _ _ hs _ _ (by omega)
end Go.Proofs.Ytdhkmaiidbomdad.Pure
