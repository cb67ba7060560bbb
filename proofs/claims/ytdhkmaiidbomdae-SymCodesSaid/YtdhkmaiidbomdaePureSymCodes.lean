/- SymCodes: symbols are checked, written and read as is said; for any symbol, numbers and bytes. -/
import Derived.Test.YtdhkmaiidbomdaeZSymRef
import Derived.Test.YtdhkmaiidbomdaePx8
namespace Go.Proofs.Ytdhkmaiidbomdae.Pure
open Go.RowKit Go.Proofs.Ytdhkmaiidbomdae.P Go.Proofs.YtdhkmaiidbomdaeW.PrintWords Go.Proofs.YtdhkmaiidbomdaeW.PrintLast Go.Proofs.Ytdhkmaiidbomdae.Z
set_option linter.unusedSimpArgs false
set_option linter.unusedVariables false
theorem codes_j0 (sections place : Int) (l : List Int) (hl : AllB l) (b : Bool) (name : ByteArray) (bind : Int) (hid : Bool) (whr val size : Int) (hs : name.size ≤ 9223372036854775807) (hb : b = true ∨ l.length ≤ 10000) (k : Nat) (hk : name.size + 100 ≤ k) :
    quoinlaw10_SymCodes.j0 k sections place l b name bind hid whr val size = some true := by
  obtain ⟨k, rfl⟩ : ∃ m, k = m + 1 := ⟨k - 1, by omega⟩
  simp only [quoinlaw10_SymCodes.j0]
  cases b
  · have h := hb.resolve_left (by simp)
    rw [if_neg (by simp), List.nil_append, if_pos (by simp; omega)]
    simp only [Option.bind_some]
    rw [symwrite_eq _ _ _ _ _ _ _ hs k (by omega), refsymwrite_eq _ _ _ _ _ _ _ hs k (by omega), symread_eq l hl k (by omega), refsymread_eq l hl k (by omega), symcheck_eq _ _ _ _ _ _ _ hs k (by omega), refsymcheck_eq _ _ _ _ _ _ _ hs k (by omega)]
    simp
  · rw [if_pos rfl]
theorem SymCodes : quoinlaw10_SymCodes.Pure := by
  intro name bind hid whr val size sections place l hs _ _ _ _ _ _ hl
  refine ⟨name.size + 200, ?_⟩
  have hs : name.size ≤ 9223372036854775807 := hs
  have hL := allB_of_wf hl.2
  unfold quoinlaw10_SymCodes.f
  by_cases h : (l.length : Int) > 10000
  · rw [if_pos h]
    exact codes_j0 _ _ _ hL _ _ _ _ _ _ _ hs (.inl rfl) _ (by omega)
  · rw [if_neg h]
    exact codes_j0 _ _ _ hL _ _ _ _ _ _ _ hs (.inr (by omega)) _ (by omega)
end Go.Proofs.Ytdhkmaiidbomdae.Pure
