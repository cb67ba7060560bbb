/- ApplyFixes: numbers are put, and cut into parts as is said; for any bytes, type and number. -/
import Derived.Test.YtoljgjnbkejhaaaZRef26Fix
import Derived.Test.YtoljgjnbkejhaaaPx9
namespace Go.Proofs.Ytoljgjnbkejhaaa.Pure
open Go.RowKit Go.Proofs.Ytoljgjnbkejhaaa.P Go.Proofs.YtoljgjnbkejhaaaW.PrintWords Go.Proofs.YtoljgjnbkejhaaaW.PrintLast Go.Proofs.Ytoljgjnbkejhaaa.Z
set_option linter.unusedSimpArgs false
set_option linter.unusedVariables false
theorem fixes_loop (l own : List Int) (h : own = l) (d : Nat) : ∀ (k i : Nat) (x : List Int), i + d = x.length → x.length ≤ 100000 → d < k → quoinlaw26_ApplyFixes.l0 k l own x (i : Int) = some true := by
  subst h
  induction d with
  | zero =>
    intro k i x hi hx hk
    obtain ⟨k, rfl⟩ : ∃ m, k = m + 1 := ⟨k - 1, by omega⟩
    simp only [quoinlaw26_ApplyFixes.l0]
    rw [if_neg (by omega)]
    simp
  | succ d ih =>
    intro k i x hi hx hk
    obtain ⟨k, rfl⟩ : ∃ m, k = m + 1 := ⟨k - 1, by omega⟩
    simp only [quoinlaw26_ApplyFixes.l0]
    rw [if_pos (by omega), if_pos (by omega), wrap64_id (by omega) (by omega)]
    exact ih k (i + 1) _ (by rw [List.length_set]; omega) (by rw [List.length_set]; omega) (by omega)
theorem ApplyFixes : quoinlaw26_ApplyFixes.Pure := by
  intro l kd v _ _ hl hkd hv
  refine ⟨3000, ?_⟩
  have hl := allB_of_wf hl
  have hkd := wfu8 hkd
  have hv := wf64 hv
  unfold quoinlaw26_ApplyFixes.f
  by_cases h : (l.length : Int) > 1000
  · rw [if_pos h]
  · obtain ⟨x, g1, X⟩ := fix_eq hl hkd hv 3000 (by omega)
    obtain ⟨y, g2, Y⟩ := reffix_eq hl hkd hv 3000 (by omega)
    have e := fixed_unique hkd X Y
    subst e
    rw [if_neg h, if_pos (by simp; omega), List.nil_append]
    simp only [Option.bind_some]
    rw [g1, g2, high_eq hv, refHigh_eq hv, low_eq hv, refLow_eq hv]
    simp only [Option.bind_some, if_true, bne_self_eq_false]
    have hx : x.length ≤ 100000 := by
      by_cases c : fixErr kd v l.length = 0
      · rw [X.len c]; omega
      · rw [X.none_ c]; simp
    rw [show (3000 : Nat) = 2999 + 1 from rfl]
    simp only [quoinlaw26_ApplyFixes.j0]
    rw [if_neg (by simp)]
    have hx2 : x.length ≤ 1000 := by
      by_cases c : fixErr kd v l.length = 0
      · rw [X.len c]; omega
      · rw [X.none_ c]; simp
    exact fixes_loop l l rfl x.length 2999 0 x (by omega) hx (by omega)
end Go.Proofs.Ytoljgjnbkejhaaa.Pure
