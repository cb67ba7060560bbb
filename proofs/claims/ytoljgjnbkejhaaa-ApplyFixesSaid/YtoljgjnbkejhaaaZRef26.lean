/- The reference of layer 26 answers the same as package apply: bit by bit; for any bytes, type and number, with enough rounds. -/
import Derived.Test.YtoljgjnbkejhaaaZWhole
import Derived.Test.YtoljgjnbkejhaaaZRefB
import Derived.Test.YtoljgjnbkejhaaaPx8
import Derived.Test.YtoljgjnbkejhaaaPx7
namespace Go.Proofs.Ytoljgjnbkejhaaa.Z
open Go.RowKit Go.Proofs.Ytoljgjnbkejhaaa.P Go.Proofs.YtoljgjnbkejhaaaW.PrintWords Go.Proofs.YtoljgjnbkejhaaaW.PrintLast Go.Proofs.YtoljgjnbkejhaaaW.PrintMore
set_option linter.unusedSimpArgs false
set_option linter.unusedVariables false
theorem u64cast {n : Nat} (h : n < 18446744073709551616) : IntKind.u64.wrap (n : Int) = (n : Int) := by rw [wrapu64, u64_id (by omega) (by omega)]
theorem bit_loop (n : Nat) (hn : n < 18446744073709551616) (at_ : Nat) (d : Nat) : ∀ (k i : Nat), i + d = at_ → at_ ≤ 64 → d < k →
    quoinref26_bit.l0 k ((n / 2 ^ i : Nat) : Int) (at_ : Int) (i : Int) = some (if n.testBit at_ = true then 1 else 0) := by
  induction d with
  | zero =>
    intro k i hi ha hk
    obtain ⟨k, rfl⟩ : ∃ m, k = m + 1 := ⟨k - 1, by omega⟩
    simp only [quoinref26_bit.l0]
    rw [if_neg (by omega), show i = at_ by omega, Int.tmod_eq_emod_of_nonneg (Int.natCast_nonneg _), Nat.testBit_eq_decide_div_mod_eq]
    generalize n / 2 ^ at_ = X
    congr 1
    by_cases h : X % 2 = 1
    · rw [decide_eq_true h, if_pos rfl]
      omega
    · rw [decide_eq_false h, if_neg (by simp)]
      omega
  | succ d ih =>
    intro k i hi ha hk
    obtain ⟨k, rfl⟩ : ∃ m, k = m + 1 := ⟨k - 1, by omega⟩
    simp only [quoinref26_bit.l0]
    have hle : n / 2 ^ i ≤ n := Nat.div_le_self _ _
    have e : Int.tdiv ((n / 2 ^ i : Nat) : Int) 2 = ((n / 2 ^ (i + 1) : Nat) : Int) := by
      rw [Int.tdiv_eq_ediv_of_nonneg (Int.natCast_nonneg _), Nat.pow_succ, ← Nat.div_div_eq_div_mul]
      generalize n / 2 ^ i = X
      omega
    have hle2 : n / 2 ^ (i + 1) ≤ n := Nat.div_le_self _ _
    rw [if_pos (by omega), e, u64cast (Nat.lt_of_le_of_lt hle2 hn), wrap64_id (by omega) (by omega)]
    exact ih k (i + 1) (by omega) ha (by omega)
theorem bit_eq (n : Nat) (hn : n < 18446744073709551616) (at_ : Nat) (ha : at_ ≤ 64) (k : Nat) (hk : 70 ≤ k) : quoinref26_bit.f k (n : Int) (at_ : Int) = some (if n.testBit at_ = true then 1 else 0) := by
  have := bit_loop n hn at_ at_ k 0 (by omega) ha (by omega)
  rw [Nat.pow_zero, Nat.div_one] at this
  exact this
/-- A number with a bit at a place. -/
def setN (n at_ : Nat) (b : Bool) : Nat := 2 ^ at_ * (2 * (n / 2 ^ (at_ + 1)) + (if b = true then 1 else 0)) + n % 2 ^ at_
theorem setN_bit (n at_ : Nat) (b : Bool) (i : Nat) : (setN n at_ b).testBit i = if i = at_ then b else n.testBit i := by
  unfold setN
  rw [Nat.testBit_two_pow_mul_add _ (Nat.mod_lt _ (Nat.two_pow_pos _))]
  by_cases h : i < at_
  · rw [if_pos h, if_neg (by omega), Nat.testBit_mod_two_pow, decide_eq_true h, Bool.true_and]
  · rw [if_neg h]
    obtain ⟨j, rfl⟩ : ∃ j, i = at_ + j := ⟨i - at_, by omega⟩
    rw [show at_ + j - at_ = j by omega]
    cases j with
    | zero =>
      rw [if_pos (show at_ + 0 = at_ by omega), Nat.testBit_zero]
      cases b <;> simp <;> omega
    | succ j =>
      rw [if_neg (show ¬ at_ + (j + 1) = at_ by omega), Nat.testBit_succ]
      have : (2 * (n / 2 ^ (at_ + 1)) + (if b = true then 1 else 0)) / 2 = n / 2 ^ (at_ + 1) := by cases b <;> simp <;> omega
      rw [this, ← Nat.shiftRight_eq_div_pow, Nat.testBit_shiftRight]
      congr 1
      omega
theorem setN_lt {n at_ : Nat} (hn : n < 18446744073709551616) (ha : at_ < 64) (b : Bool) : setN n at_ b < 18446744073709551616 := by
  have h := Nat.lt_pow_two_of_testBit (n := 64) (setN n at_ b) (fun i hi => by rw [setN_bit, if_neg (by omega)]; exact bigBit hn hi)
  simpa using h
theorem split_at (n at_ : Nat) : n = 2 ^ at_ * (2 * (n / 2 ^ (at_ + 1)) + (if n.testBit at_ = true then 1 else 0)) + n % 2 ^ at_ := by
  have h1 := Nat.div_add_mod n (2 ^ at_)
  have h2 : n / 2 ^ (at_ + 1) = n / 2 ^ at_ / 2 := by rw [Nat.pow_succ, Nat.div_div_eq_div_mul]
  have h3 : n / 2 ^ at_ = 2 * (n / 2 ^ at_ / 2) + (if n.testBit at_ = true then 1 else 0) := by
    rw [Nat.testBit_eq_decide_div_mod_eq]
    by_cases h : n / 2 ^ at_ % 2 = 1
    · rw [decide_eq_true h, if_pos rfl]; omega
    · rw [decide_eq_false h, if_neg (by simp)]; omega
  rw [h2, ← h3]
  exact h1.symm
theorem set_loop (n : Nat) (hn : n < 18446744073709551616) (at_ : Nat) (ha : at_ < 64) (b : Bool) (d : Nat) : ∀ (k i : Nat), i + d = at_ → d + 80 < k →
    quoinref26_set.l0 k (n : Int) (at_ : Int) (if b = true then 1 else 0) ((2 ^ i : Nat) : Int) (i : Int) = some ((setN n at_ b : Nat) : Int) := by
  induction d with
  | zero =>
    intro k i hi hk
    obtain ⟨k, rfl⟩ : ∃ m, k = m + 1 := ⟨k - 1, by omega⟩
    obtain rfl : i = at_ := by omega
    simp only [quoinref26_set.l0]
    rw [if_neg (by omega), bit_eq n hn i (by omega) k (by omega)]
    simp only [Option.bind_some]
    have hlt := setN_lt hn ha b
    have hs := split_at n i
    have hp : 2 ^ i < 18446744073709551616 := by
      have := Nat.pow_lt_pow_right (show 1 < 2 by decide) ha
      simpa using this
    unfold setN at hlt ⊢
    generalize n / 2 ^ (i + 1) = A at *
    generalize n % 2 ^ i = C at *
    generalize 2 ^ i = M at *
    have hA : M * (2 * A + 1) = 2 * (M * A) + M := by rw [Nat.mul_add, Nat.mul_one, Nat.mul_left_comm]
    have hB : M * (2 * A + 0) = 2 * (M * A) := by rw [Nat.add_zero, Nat.mul_left_comm]
    cases b <;> cases hb : n.testBit i <;> rw [hb] at hs <;> simp only [if_true, Bool.false_eq_true, if_false, hA, hB, wrapu64] at hs hlt ⊢ <;> unfold u64 <;> simp <;> omega
  | succ d ih =>
    intro k i hi hk
    obtain ⟨k, rfl⟩ : ∃ m, k = m + 1 := ⟨k - 1, by omega⟩
    have hp : 2 ^ (i + 1) < 18446744073709551616 := by
      have := Nat.pow_lt_pow_right (show 1 < 2 by decide) (show i + 1 < 64 by omega)
      simpa using this
    simp only [quoinref26_set.l0]
    rw [if_pos (by omega), wrap64_id (by omega) (by omega), show ((2 ^ i : Nat) : Int) * 2 = ((2 ^ (i + 1) : Nat) : Int) by rw [Nat.pow_succ]; push_cast; rfl, u64cast hp]
    exact ih k (i + 1) (by omega) (by omega)
theorem set_eq (n : Nat) (hn : n < 18446744073709551616) (at_ : Nat) (ha : at_ < 64) (b : Bool) (k : Nat) (hk : 160 ≤ k) :
    quoinref26_set.f k (n : Int) (at_ : Int) (if b = true then 1 else 0) = some ((setN n at_ b : Nat) : Int) := by
  have := set_loop n hn at_ ha b at_ k 0 (by omega) (by omega)
  exact this
theorem move_loop (w : Nat) (hw : w < 18446744073709551616) (p : Int) (f t m : Nat) (hf : f + m ≤ 64) (ht : t + m ≤ 64) (hm : 1 ≤ m) (d : Nat) : ∀ (k i c : Nat), i + d = m → d + 200 < k → c < 18446744073709551616 →
    (∀ j, c.testBit j = if t + (m - i) ≤ j ∧ j < t + m then (u64 p).toNat.testBit (j - t + f) else w.testBit j) →
    ∃ r : Nat, quoinref26_move.l0 k (c : Int) p ((f + m - 1 : Nat) : Int) (f : Int) ((t + m - 1 : Nat) : Int) (i : Int) = some (r : Int) ∧ r < 18446744073709551616 ∧ ∀ j, r.testBit j = if t ≤ j ∧ j < t + m then (u64 p).toNat.testBit (j - t + f) else w.testBit j := by
  induction d with
  | zero =>
    intro k i c hi hk hc h
    obtain ⟨k, rfl⟩ : ∃ m, k = m + 1 := ⟨k - 1, by omega⟩
    simp only [quoinref26_move.l0]
    rw [wrap64_id (by omega) (by omega), if_neg (by omega)]
    refine ⟨c, rfl, hc, fun j => ?_⟩
    rw [h, show t + (m - i) = t by omega]
  | succ d ih =>
    intro k i c hi hk hc h
    obtain ⟨k, rfl⟩ : ∃ m, k = m + 1 := ⟨k - 1, by omega⟩
    have hP := u64_nat p
    simp only [quoinref26_move.l0]
    rw [wrap64_id (n := ((f + m - 1 : Nat) : Int) - (i : Int)) (by omega) (by omega), if_pos (by omega), hP.1, show ((f + m - 1 : Nat) : Int) - (i : Int) = ((f + (m - 1 - i) : Nat) : Int) by omega, bit_eq _ hP.2 _ (by omega) k (by omega)]
    simp only [Option.bind_some]
    rw [wrap64_id (n := ((t + m - 1 : Nat) : Int) - (i : Int)) (by omega) (by omega), show ((t + m - 1 : Nat) : Int) - (i : Int) = ((t + (m - 1 - i) : Nat) : Int) by omega, set_eq c hc _ (by omega) _ k (by omega), wrap64_id (by omega) (by omega)]
    simp only [Option.bind_some]
    refine ih k (i + 1) _ (by omega) (by omega) (setN_lt hc (by omega) _) (fun j => ?_)
    rw [setN_bit, h]
    by_cases hj : j = t + (m - 1 - i)
    · rw [if_pos hj, if_pos (by omega)]
      congr 1
      omega
    · rw [if_neg hj]
      by_cases hj2 : t + (m - i) ≤ j ∧ j < t + m
      · rw [if_pos hj2, if_pos (by omega)]
      · rw [if_neg hj2, if_neg (by omega)]
/-- Bits of a value, from one to another one, put at places from one on down: as one row. -/
theorem move_eq (w : Nat) (hw : w < 18446744073709551616) (p : Int) (f t m : Nat) (hf : f + m ≤ 64) (ht : t + m ≤ 64) (hm : 1 ≤ m) (k : Nat) (hk : 300 ≤ k) (a b c : Int) (ea : a = ((f + m - 1 : Nat) : Int)) (eb : b = (f : Int)) (ec : c = ((t + m - 1 : Nat) : Int)) :
    ∃ r : Nat, quoinref26_move.f k (w : Int) p a b c = some (r : Int) ∧ r < 18446744073709551616 ∧ ∀ j, r.testBit j = pick (src [⟨(f : Int), (t : Int), (m : Int)⟩] j) (u64 p).toNat (w.testBit j) := by
  subst ea eb ec
  obtain ⟨r, h1, h2, h3⟩ := move_loop w hw p f t m hf ht hm m k 0 w (by omega) (by omega) hw (fun j => by rw [if_neg (by omega)])
  refine ⟨r, h1, h2, fun j => ?_⟩
  rw [h3, pick_cons]
  rfl
/-- One row behind others. -/
theorem rows_then {r : S48} {rs : List S48} {P : Nat} {w0 w1 w2 : Nat} (h1 : ∀ j, w1.testBit j = pick (src [r] j) P (w0.testBit j)) (h2 : ∀ j, w2.testBit j = pick (src rs j) P (w1.testBit j)) : ∀ j, w2.testBit j = pick (src (r :: rs) j) P (w0.testBit j) := by
  intro j
  rw [h2, h1, pick_cons, pick_cons]
  rfl
theorem refhigh_eq {n : Int} (h : -4611686018427387904 ≤ n ∧ n ≤ 4611686018427387904) : quoinref26_high.f n = some (highOf n) := by
  unfold quoinref26_high.f highOf
  rw [wrap64_id (n := n + 2048) (by omega) (by omega)]
  rcases Int.le_total 0 (n + 2048) with c | c
  · rw [Int.tmod_eq_emod_of_nonneg c, Int.tdiv_eq_ediv_of_nonneg c, if_neg (by omega), wrap64_id (by omega) (by omega)]
  · obtain ⟨p, hp⟩ : ∃ p, n + 2048 = -p := ⟨-(n + 2048), by omega⟩
    rw [hp, Int.neg_tmod, Int.neg_tdiv, Int.tmod_eq_emod_of_nonneg (by omega), Int.tdiv_eq_ediv_of_nonneg (by omega), wrap64_id (n := -(p / 4096)) (by omega) (by omega)]
    by_cases hz : -(p % 4096) < 0
    · rw [if_pos hz, wrap64_id (by omega) (by omega)]
      congr 1
      omega
    · rw [if_neg hz]
      congr 1
      omega
theorem refparts_eq {n : Int} (h : -9223372036854775808 ≤ n ∧ n ≤ 9223372036854775807) : quoinref26_parts.f n = some (decide (hasParts n)) := by
  unfold quoinref26_parts.f
  by_cases c1 : n ≥ -1099511627776
  · rw [if_pos c1]
    by_cases c2 : n ≤ 1099511627776
    · rw [if_pos c2, refhigh_eq (by omega)]
      simp only [Option.bind_some]
      by_cases c3 : highOf n ≥ -524288
      · rw [if_pos c3]
        congr 1
        exact decide_eq_decide.mpr ⟨fun c => ⟨c3, c⟩, fun c => c.2⟩
      · rw [if_neg c3, decide_eq_false (fun c : hasParts n => c3 c.1)]
    · rw [if_neg c2, decide_eq_false]
      intro c
      have := c.2
      unfold highOf at this
      omega
  · rw [if_neg c1, decide_eq_false]
    intro c
    have := c.1
    unfold highOf at this
    omega
theorem reach {n : Int} (h : hasParts n) : -4611686018427387904 ≤ n ∧ n ≤ 4611686018427387904 := by
  have h1 := h.1
  have h2 := h.2
  unfold highOf at h1 h2
  omega
theorem refHigh_eq {n : Int} (h : -9223372036854775808 ≤ n ∧ n ≤ 9223372036854775807) : quoinref26_High.f n = some (highAns n) := by
  unfold quoinref26_High.f highAns
  rw [refparts_eq h]
  simp only [Option.bind_some]
  by_cases c : hasParts n
  · rw [decide_eq_true c, if_pos rfl, if_pos c, refhigh_eq (reach c)]
    rfl
  · rw [decide_eq_false c, if_neg (by simp), if_neg c]
theorem refLow_eq {n : Int} (h : -9223372036854775808 ≤ n ∧ n ≤ 9223372036854775807) : quoinref26_Low.f n = some (lowAns n) := by
  unfold quoinref26_Low.f lowAns
  rw [refparts_eq h]
  simp only [Option.bind_some]
  by_cases c : hasParts n
  · have hr := reach c
    have h1 := c.1
    have h2 := c.2
    have hb := @low_bounds n
    rw [decide_eq_true c, if_pos rfl, if_pos c, refhigh_eq hr]
    simp only [Option.bind_some]
    rw [wrap64_id (n := 4096 * highOf n) (by omega) (by omega), wrap64_id (by omega) (by omega)]
  · rw [decide_eq_false c, if_neg (by simp), if_neg c]
theorem cut_eq (c : Nat) (hc : c < 18446744073709551616) (size : Nat) (hs : size ≤ 8) (k : Nat) (hk : 20 ≤ k) : quoinref26_cut.f k (c : Int) (size : Int) = some (bytesI (c : Int) size) := by
  unfold quoinref26_cut.f
  have := refbytes_eq (wrap64 (c : Int)) 8 k (by omega) (by omega)
  rw [u64_wrap64 (by omega) (by omega)] at this
  rw [show (8 : Int) = ((8 : Nat) : Int) from rfl, this]
  simp only [Option.bind_some, bytesI_length]
  rw [if_pos (by omega), if_pos (by omega), Int.toNat_natCast, bytesI_take _ _ _ hs]
theorem about_eq {kd : Int} (h : 0 ≤ kd ∧ kd ≤ 255) {k : Nat} (hk : 5 ≤ k) : quoinref11_About.f k kd = some (if (fieldAns kd).2 = 0 then (fieldAns kd).1 else -1) :=
  mono_some (g := fun k => quoinref11_About.f k kd) (fun k => quoinref11_About.mono kd k) (u8_all (P := fun x => quoinref11_About.f 5 x = some (if (fieldAns x).2 = 0 then (fieldAns x).1 else -1)) (by decide +kernel) h) hk
end Go.Proofs.Ytoljgjnbkejhaaa.Z
