/- RelaBack: but for the section, relocations and their bytes are told by one another; for any relocation and bytes. -/
import Derived.Test.YtomabnfeipobnaaZRelaRead
import Derived.Test.YtomabnfeipobnaaPx43
namespace Go.Proofs.Ytomabnfeipobnaa.Pure
open Go.RowKit Go.Proofs.Ytomabnfeipobnaa.P Go.Proofs.YtomabnfeipobnaaW.PrintWords Go.Proofs.YtomabnfeipobnaaW.PrintLast Go.Proofs.Ytomabnfeipobnaa.Z
set_option linter.unusedSimpArgs false
set_option linter.unusedVariables false
theorem relaback_j0 (l : List Int) (hl : AllB l) (k : Nat) (hk : 60 ≤ k) : quoinlaw11_RelaBack.j0 k l true = some true := by
  obtain ⟨k, rfl⟩ : ∃ m, k = m + 1 := ⟨k - 1, by omega⟩
  simp only [quoinlaw11_RelaBack.j0]
  rw [relaread_eq l hl k (by omega)]
  simp only [Option.bind_some]
  unfold relaReadAns
  by_cases h : l.length = 24
  · rw [if_pos h]
    by_cases hf : relaFits l
    · rw [if_pos hf]
      dsimp only
      rw [if_pos rfl, relawrite_eq _ _ _ _ _ (relaKind_u8 l) k (by omega)]
      simp only [Option.bind_some]
      rw [relaAns, if_pos hf.1, hf.2]
      simp
    · rw [if_neg hf, if_neg (by decide)]
      decide +kernel
  · rw [if_neg h, if_neg (by decide)]
    decide +kernel
theorem RelaBack : quoinlaw11_RelaBack.Pure := by
  intro sec off kd sym add l _ _ hkd _ _ hl
  refine ⟨100, ?_⟩
  have hL := allB_of_wf hl.2
  have J := relaback_j0 l hL 100 (by omega)
  have hkd := wfu8 hkd
  unfold quoinlaw11_RelaBack.f
  rw [alive11_eq (by omega), relawrite_eq _ _ _ _ _ hkd _ (by omega)]
  simp only [Option.bind_some]
  rw [relaAns]
  by_cases ho : relaOk off kd sym add = true
  · rw [if_pos ho]
    dsimp only
    rw [if_pos rfl, relaread_eq _ (relaBytes_allB _ _ _ _) _ (by omega), relaread_write hkd ho]
    simp [relaBytes_length, J]
  · rw [if_neg ho]
    dsimp only
    rw [if_neg (by decide)]
    exact J
end Go.Proofs.Ytomabnfeipobnaa.Pure
