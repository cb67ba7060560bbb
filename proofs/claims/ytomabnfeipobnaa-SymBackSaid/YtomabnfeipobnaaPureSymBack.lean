/- SymBack: but for the name, symbols and their bytes are told by one another; for any symbol, place and bytes. -/
import Derived.Test.YtomabnfeipobnaaZSymRead
import Derived.Test.YtomabnfeipobnaaPx41
namespace Go.Proofs.Ytomabnfeipobnaa.Pure
open Go.RowKit Go.Proofs.Ytomabnfeipobnaa.P Go.Proofs.YtomabnfeipobnaaW.PrintWords Go.Proofs.YtomabnfeipobnaaW.PrintLast Go.Proofs.Ytomabnfeipobnaa.Z
set_option linter.unusedSimpArgs false
set_option linter.unusedVariables false
theorem back_j0 (l : List Int) (hl : AllB l) (k : Nat) (hk : 60 ≤ k) : quoinlaw10_SymBack.j0 k l true = some true := by
  obtain ⟨k, rfl⟩ : ∃ m, k = m + 1 := ⟨k - 1, by omega⟩
  simp only [quoinlaw10_SymBack.j0]
  rw [symread_eq l hl k (by omega)]
  simp only [Option.bind_some]
  unfold symReadAns
  by_cases h24 : l.length = 24
  · rw [if_pos h24]
    by_cases hf : symFits l
    · rw [if_pos hf]
      simp only [if_true]
      rw [symwrite_eq _ _ _ _ _ _ _ (by decide) _ (by have : (⟨#[97, 110, 121]⟩ : ByteArray).size = 3 := rfl; omega), write_named any_ok, if_pos hf.1, if_pos hf.2.1, hf.2.2]
      simp
    · rw [if_neg hf, if_neg (by decide)]
      decide +kernel
  · rw [if_neg h24, if_neg (by decide)]
    decide +kernel
theorem SymBack : quoinlaw10_SymBack.Pure := by
  intro name bind hid whr val size place l hs hb _ hv hz _ hl
  refine ⟨name.size + 100, ?_⟩
  have hs : name.size ≤ 9223372036854775807 := hs
  have hL := allB_of_wf hl.2
  unfold quoinlaw10_SymBack.f
  rw [alive_eq _ (by omega), symwrite_eq _ _ _ _ _ _ _ hs _ (by omega)]
  simp only [Option.bind_some]
  have J := back_j0 l hL (name.size + 100) (by omega)
  unfold symWriteAns
  by_cases ha : symAns name bind hid whr val size 16 = 0
  · rw [if_pos ha]
    by_cases hp : 0 ≤ place ∧ place ≤ 65535
    · rw [if_pos hp]
      simp only [if_true]
      rw [symread_eq _ (symBytes_allB _ _ _ _ _ _) _ (by omega), symread_write (wfu8 hb).1 (symAns_ok ha).2.2 hp (wf64 hv) (wf64 hz)]
      simp only [Option.bind_some, if_true, symBytes_length]
      rw [if_neg (by simp), if_pos (by decide)]
      exact J
    · rw [if_neg hp, if_neg (by decide)]
      exact J
  · rw [if_neg ha, if_neg ha]
    exact J
end Go.Proofs.Ytomabnfeipobnaa.Pure
