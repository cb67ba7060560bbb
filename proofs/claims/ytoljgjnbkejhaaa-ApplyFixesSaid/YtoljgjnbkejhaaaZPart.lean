/- A number's parts, and the value that package apply puts of it; for any type and number, with enough rounds. -/
import Derived.Test.YtoljgjnbkejhaaaZField
import Derived.Test.YtoljgjnbkejhaaaZBits
import Derived.Test.YtoljgjnbkejhaaaPx1
namespace Go.Proofs.Ytoljgjnbkejhaaa.Z
open Go.RowKit Go.Proofs.Ytoljgjnbkejhaaa.P Go.Proofs.YtoljgjnbkejhaaaW.PrintWords Go.Proofs.YtoljgjnbkejhaaaW.PrintLast Go.Proofs.YtoljgjnbkejhaaaW.PrintMore
set_option linter.unusedSimpArgs false
set_option linter.unusedVariables false
/-- A number's high part, as far as it has one. -/
def highOf (n : Int) : Int := (n + 2048) / 4096
def hasParts (n : Int) : Prop := -524288 ≤ highOf n ∧ highOf n < 524288
instance (n : Int) : Decidable (hasParts n) := inferInstanceAs (Decidable (_ ∧ _))
def highAns (n : Int) : Int × Int := if hasParts n then (highOf n, 0) else (0, 260)
def lowAns (n : Int) : Int × Int := if hasParts n then (n - 4096 * highOf n, 0) else (0, 260)
theorem high_tail (n h : Int) (e : h = highOf n) : (if h < -524288 then some ((0 : Int), (260 : Int)) else if h ≥ 524288 then some (0, 260) else some (h, 0)) = some (highAns n) := by
  subst e
  unfold highAns
  by_cases h1 : highOf n < -524288
  · rw [if_pos h1, if_neg (fun c : hasParts n => by have := c.1; omega)]
  · rw [if_neg h1]
    by_cases h2 : highOf n ≥ 524288
    · rw [if_pos h2, if_neg (fun c : hasParts n => by have := c.2; omega)]
    · rw [if_neg h2, if_pos (show hasParts n from ⟨by omega, by omega⟩)]
theorem high_eq {n : Int} (h : -9223372036854775808 ≤ n ∧ n ≤ 9223372036854775807) : apply_High.f n = some (highAns n) := by
  unfold apply_High.f
  have e := and2048 h.1 h.2
  by_cases hb : n / 2048 % 2 = 0
  · rw [if_pos (by rw [e]; exact hb)]
    exact high_tail n _ (by unfold highOf; omega)
  · rw [if_neg (by rw [e]; exact hb)]
    exact high_tail n _ (by unfold highOf; rw [wrap64_id (by omega) (by omega)]; omega)
theorem low_eq {n : Int} (h : -9223372036854775808 ≤ n ∧ n ≤ 9223372036854775807) : apply_Low.f n = some (lowAns n) := by
  unfold apply_Low.f
  rw [high_eq h]
  simp only [Option.bind_some]
  unfold highAns lowAns
  by_cases hp : hasParts n
  · have hp2 := hp
    unfold hasParts at hp2
    have hl : -2048 ≤ n - 4096 * highOf n ∧ n - 4096 * highOf n < 2048 := by unfold highOf; omega
    rw [if_pos hp, if_pos hp]
    dsimp only
    rw [if_pos rfl, wrap64_id (n := highOf n * 4096) (by omega) (by omega), wrap64_id (by omega) (by omega), show n - highOf n * 4096 = n - 4096 * highOf n by omega]
  · rw [if_neg hp, if_neg hp]
    rfl
theorem low_bounds {n : Int} : -2048 ≤ n - 4096 * highOf n ∧ n - 4096 * highOf n < 2048 := by unfold highOf; omega
/-- The power of two that bounds an even value; 0: it may be odd. -/
def farAns (kd : Int) : Int := if kd = 16 then 4096 else if kd = 17 then 1048576 else if kd = 44 then 256 else if kd = 45 then 2048 else 0
theorem far_eq (kd : Int) : apply_far.f kd = some (farAns kd) := by
  unfold apply_far.f farAns
  repeat' split
  all_goals rfl
/-- The value that is put, and no error; or the error. -/
def partAns (kd v : Int) : Int × Int :=
  if farAns kd > 0 ∧ v % 2 = 1 then (0, 261) else if farAns kd > 0 ∧ (v < -farAns kd ∨ v ≥ farAns kd) then (0, 260)
  else if kd = 26 ∨ kd = 23 then highAns v else if kd = 27 ∨ kd = 24 ∨ kd = 28 ∨ kd = 25 then lowAns v
  else if kd = 1 ∧ (v < -2147483648 ∨ v ≥ 4294967296) then (0, 260) else (v, 0)
theorem far_vals (kd : Int) : farAns kd = 0 ∨ farAns kd = 4096 ∨ farAns kd = 1048576 ∨ farAns kd = 256 ∨ farAns kd = 2048 := by
  unfold farAns
  repeat' split
  all_goals simp
/-- What a value comes to behind its bounds. -/
def tailAns (kd v : Int) : Int × Int := if kd = 26 ∨ kd = 23 then highAns v else if kd = 27 ∨ kd = 24 ∨ kd = 28 ∨ kd = 25 then lowAns v
  else if kd = 1 ∧ (v < -2147483648 ∨ v ≥ 4294967296) then (0, 260) else (v, 0)
theorem beq_dec (a b : Int) : (a == b) = decide (a = b) := by by_cases h : a = b <;> simp [h]
theorem part_j2 (kd v : Int) (h : -9223372036854775808 ≤ v ∧ v ≤ 9223372036854775807) (b : Bool) (hb : b = decide (kd = 27 ∨ kd = 24 ∨ kd = 28 ∨ kd = 25)) (k : Nat) :
    apply_part.j2 (k + 1) v kd b = some (if kd = 27 ∨ kd = 24 ∨ kd = 28 ∨ kd = 25 then lowAns v else if kd = 1 ∧ (v < -2147483648 ∨ v ≥ 4294967296) then (0, 260) else (v, 0)) := by
  subst hb
  simp only [apply_part.j2, low_eq h, Option.bind_some]
  by_cases c : kd = 27 ∨ kd = 24 ∨ kd = 28 ∨ kd = 25
  · rw [if_pos c, decide_eq_true c, if_pos rfl]
  · rw [if_neg c, decide_eq_false c, if_neg (by simp)]
    by_cases c1 : kd = 1
    · rw [if_pos c1]
      by_cases c2 : v < -2147483648
      · rw [if_pos c2, if_pos ⟨c1, .inl c2⟩]
      · rw [if_neg c2]
        by_cases c3 : v ≥ 4294967296
        · rw [if_pos c3, if_pos ⟨c1, .inr c3⟩]
        · rw [if_neg c3, if_neg (by omega)]
    · rw [if_neg c1, if_neg (fun h => c1 h.1)]
theorem part_j1 (kd v : Int) (h : -9223372036854775808 ≤ v ∧ v ≤ 9223372036854775807) (b : Bool) (hb : b = decide (kd = 26 ∨ kd = 23)) (k : Nat) :
    apply_part.j1 (k + 2) v kd b = some (tailAns kd v) := by
  subst hb
  unfold tailAns
  simp only [apply_part.j1, high_eq h, Option.bind_some]
  by_cases c : kd = 26 ∨ kd = 23
  · rw [if_pos c, decide_eq_true c, if_pos rfl]
  · rw [if_neg c, decide_eq_false c, if_neg (by simp)]
    have J := fun b hb => part_j2 kd v h b hb k
    by_cases c1 : kd = 27
    · rw [if_pos c1]
      exact J _ (by simp [c1])
    rw [if_neg c1]
    by_cases c2 : kd = 24
    · rw [if_pos c2]
      exact J _ (by simp [c2])
    rw [if_neg c2]
    by_cases c3 : kd = 28
    · rw [if_pos c3]
      exact J _ (by simp [c3])
    rw [if_neg c3]
    exact J _ (by simp [c1, c2, c3, beq_dec])
theorem part_j0 (kd v : Int) (h : -9223372036854775808 ≤ v ∧ v ≤ 9223372036854775807) (k : Nat) (hk : 3 ≤ k) : apply_part.j0 k kd v = some (tailAns kd v) := by
  obtain ⟨k, rfl⟩ : ∃ m, k = m + 3 := ⟨k - 3, by omega⟩
  simp only [apply_part.j0]
  have J := fun b hb => part_j1 kd v h b hb k
  by_cases c : kd = 26
  · rw [if_pos c]
    exact J _ (by simp [c])
  · rw [if_neg c]
    exact J _ (by simp [c, beq_dec])
theorem part_eq (kd v : Int) (h : -9223372036854775808 ≤ v ∧ v ≤ 9223372036854775807) (k : Nat) (hk : 3 ≤ k) : apply_part.f k kd v = some (partAns kd v) := by
  unfold apply_part.f
  rw [far_eq]
  simp only [Option.bind_some]
  have hf := far_vals kd
  have J := part_j0 kd v h k hk
  have e : partAns kd v = if farAns kd > 0 ∧ v % 2 = 1 then (0, 261) else if farAns kd > 0 ∧ (v < -farAns kd ∨ v ≥ farAns kd) then (0, 260) else tailAns kd v := rfl
  rw [e]
  by_cases c : farAns kd > 0
  · rw [if_pos c, wrap64_id (n := -farAns kd) (by omega) (by omega)]
    by_cases c1 : v % 2 = 1
    · rw [if_pos (by rw [and1 h.1 h.2]; exact c1), if_pos ⟨c, c1⟩]
    · rw [if_neg (by rw [and1 h.1 h.2]; exact c1), if_neg (show ¬ (farAns kd > 0 ∧ v % 2 = 1) from fun h => c1 h.2)]
      by_cases c2 : v < -farAns kd
      · rw [if_pos c2, if_pos ⟨c, .inl c2⟩]
      · rw [if_neg c2]
        by_cases c3 : v ≥ farAns kd
        · rw [if_pos c3, if_pos ⟨c, .inr c3⟩]
        · rw [if_neg c3, if_neg (show ¬ (farAns kd > 0 ∧ (v < -farAns kd ∨ v ≥ farAns kd)) by omega)]
          exact J
  · rw [if_neg c, if_neg (show ¬ (farAns kd > 0 ∧ v % 2 = 1) from fun h => c h.1), if_neg (show ¬ (farAns kd > 0 ∧ (v < -farAns kd ∨ v ≥ farAns kd)) from fun h => c h.1)]
    exact J
end Go.Proofs.Ytoljgjnbkejhaaa.Z
