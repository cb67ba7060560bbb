/- ApplyParts: a number is its low part, and its high part by 2^12; for any number. -/
import Derived.Test.YtoljgjnbkejhaaaZApplyAlive
import Derived.Test.YtoljgjnbkejhaaaZPart
import Derived.Test.YtoljgjnbkejhaaaPx10
namespace Go.Proofs.Ytoljgjnbkejhaaa.Pure
open Go.RowKit Go.Proofs.Ytoljgjnbkejhaaa.P Go.Proofs.YtoljgjnbkejhaaaW.PrintWords Go.Proofs.YtoljgjnbkejhaaaW.PrintLast Go.Proofs.Ytoljgjnbkejhaaa.Z
set_option linter.unusedSimpArgs false
set_option linter.unusedVariables false
theorem ApplyParts : quoinlaw26_ApplyParts.Pure := by
  intro n hn
  have hn := wf64 hn
  refine ⟨100, ?_⟩
  unfold quoinlaw26_ApplyParts.f
  rw [alive26_eq (by omega), high_eq hn, low_eq hn]
  simp only [Option.bind_some]
  unfold highAns lowAns
  have hb := @low_bounds n
  by_cases h : hasParts n
  · have h1 := h.1
    have h2 := h.2
    unfold highOf at h1 h2
    rw [if_pos h, if_pos h, if_neg (by omega), if_neg (by omega)]
    dsimp only
    have h1 := h.1
    have h2 := h.2
    simp only [if_true]
    rw [if_pos hb.1, if_pos hb.2, if_pos h1, if_pos h2, wrap64_id (n := 4096 * highOf n) (by omega) (by omega), wrap64_id (by omega) (by omega)]
    simp
  · have hr : n < -2147485696 ∨ n > 2147481599 := by
      have : ¬ (-524288 ≤ highOf n ∧ highOf n < 524288) := h
      unfold highOf at this
      omega
    rw [if_neg h, if_neg h]
    by_cases c : n < -2147485696
    · rw [if_pos c]
      rfl
    · rw [if_neg c, if_pos (by omega)]
      rfl
end Go.Proofs.Ytoljgjnbkejhaaa.Pure
