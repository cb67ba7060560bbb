/- Bits of whole numbers from 0 to 2^64, as Go's operations tell them; for any such numbers. -/
import Derived.Test.YtoljgjnbkejhaaaWMore
namespace Go.Proofs.Ytoljgjnbkejhaaa.Z
open Go.RowKit Go.Proofs.YtoljgjnbkejhaaaW.PrintWords Go.Proofs.YtoljgjnbkejhaaaW.PrintLast Go.Proofs.YtoljgjnbkejhaaaW.PrintMore
set_option linter.unusedSimpArgs false
set_option linter.unusedVariables false
theorem tb_toNat (x : BitVec 64) (i : Nat) : x.toNat.testBit i = x.getLsbD i := BitVec.testBit_toNat x
theorem ofInt_nat (a : Nat) (ha : a < 18446744073709551616) : (BitVec.ofInt 64 (a : Int)).toNat = a := by
  rw [BitVec.ofInt_natCast, BitVec.toNat_ofNat]; exact Nat.mod_eq_of_lt (by omega)
theorem andNotN (a b : Nat) (ha : a < 18446744073709551616) (hb : b < 18446744073709551616) :
    ∃ c : Nat, bits .andNot .u64 (a : Int) (b : Int) = (c : Int) ∧ c < 18446744073709551616 ∧ ∀ i, c.testBit i = (a.testBit i && !b.testBit i) := by
  refine ⟨(BitVec.ofInt 64 (a : Int) &&& ~~~ BitVec.ofInt 64 (b : Int)).toNat, ?_, BitVec.isLt _, fun i => ?_⟩
  · show IntKind.u64.wrap ((BitVec.ofInt 64 (a : Int) &&& ~~~ BitVec.ofInt 64 (b : Int)).toNat : Int) = _
    have := BitVec.isLt (BitVec.ofInt 64 (a : Int) &&& ~~~ BitVec.ofInt 64 (b : Int))
    rw [IntKind.wrap_u64]
    omega
  · rw [tb_toNat, BitVec.getLsbD_and, BitVec.getLsbD_not, ← tb_toNat, ← tb_toNat, ofInt_nat a ha, ofInt_nat b hb]
    by_cases h : i < 64
    · simp [h]
    · have : a.testBit i = false := Nat.testBit_lt_two_pow (Nat.lt_of_lt_of_le ha (by
        have : (2 : Nat) ^ 64 ≤ 2 ^ i := Nat.pow_le_pow_right (by decide) (by omega)
        simpa using this))
      simp [this]
theorem shlN (a t : Nat) (ht : t < 64) : shl .u64 (a : Int) (t : Int) = ((a * 2 ^ t % 18446744073709551616 : Nat) : Int) := by
  unfold shl
  have : min (t : Int).toNat IntKind.u64.bits = t := by simp only [IntKind.bits]; omega
  rw [this, IntKind.wrap_u64, Int.natCast_emod, Int.natCast_mul, Int.natCast_pow]
  rfl
theorem shlN_bit (a t i : Nat) : (a * 2 ^ t % 18446744073709551616).testBit i = (decide (i < 64) && (decide (t ≤ i) && a.testBit (i - t))) := by
  rw [show (18446744073709551616 : Nat) = 2 ^ 64 by decide, Nat.testBit_mod_two_pow, ← Nat.shiftLeft_eq, Nat.testBit_shiftLeft]
theorem shrN (a t : Nat) (ht : t < 64) : shr .u64 (a : Int) (t : Int) = ((a / 2 ^ t : Nat) : Int) := by
  unfold shr
  have : min (t : Int).toNat IntKind.u64.bits = t := by simp only [IntKind.bits]; omega
  rw [this]
  push_cast
  rfl
theorem shrN_bit (a t i : Nat) : (a / 2 ^ t).testBit i = a.testBit (t + i) := by
  rw [← Nat.shiftRight_eq_div_pow, Nat.testBit_shiftRight]
theorem maskN (m : Nat) (hm : m < 64) : IntKind.u64.wrap (shl .u64 1 (m : Int) - 1) = ((2 ^ m - 1 : Nat) : Int) := by
  have h := shlN 1 m hm
  have hp : 2 ^ m < 2 ^ 64 := Nat.pow_lt_pow_right (by decide) hm
  have h1 : 1 ≤ 2 ^ m := Nat.one_le_two_pow
  rw [show ((1 : Nat) : Int) = 1 from rfl, Nat.one_mul, Nat.mod_eq_of_lt (by simpa using hp)] at h
  rw [h, IntKind.wrap_u64]
  simp only [show (2 : Nat) ^ 64 = 18446744073709551616 by decide] at hp
  omega
/-- One move of bits: so many, from the one place on up to the other. -/
theorem stepN (w p f t m : Nat) (hw : w < 18446744073709551616) (hp : p < 18446744073709551616) (hf : f < 64) (ht : t + m ≤ 64) (hm : m < 64) (ht2 : t < 64) :
    ∃ c : Nat, bits .or .u64 (bits .andNot .u64 (w : Int) (shl .u64 (IntKind.u64.wrap (shl .u64 1 (m : Int) - 1)) (t : Int))) (shl .u64 (bits .and .u64 (shr .u64 (p : Int) (f : Int)) (IntKind.u64.wrap (shl .u64 1 (m : Int) - 1))) (t : Int)) = (c : Int) ∧
      c < 18446744073709551616 ∧ ∀ i, c.testBit i = if t ≤ i ∧ i < t + m then p.testBit (i - t + f) else w.testBit i := by
  have hpm : 2 ^ m < 2 ^ 64 := Nat.pow_lt_pow_right (by decide) hm
  simp only [show (2 : Nat) ^ 64 = 18446744073709551616 by decide] at hpm
  have hdiv : p / 2 ^ f < 18446744073709551616 := Nat.lt_of_le_of_lt (Nat.div_le_self _ _) hp
  rw [maskN m hm, shlN _ t ht2, shrN p f hf, bits_and_u64_nat _ _ hdiv (by omega), shlN _ t ht2]
  obtain ⟨c, h1, h2, h3⟩ := andNotN w ((2 ^ m - 1) * 2 ^ t % 18446744073709551616) hw (Nat.mod_lt _ (by decide))
  rw [h1, bits_or_u64_nat _ _ h2 (Nat.mod_lt _ (by decide))]
  refine ⟨_, rfl, ?_, fun i => ?_⟩
  · have := Nat.or_lt_two_pow (n := 64) (show c < 2 ^ 64 by simpa using h2) (show (p / 2 ^ f &&& 2 ^ m - 1) * 2 ^ t % 18446744073709551616 < 2 ^ 64 by simpa using Nat.mod_lt _ (by decide))
    simpa using this
  · rw [Nat.testBit_or, h3, shlN_bit, shlN_bit, Nat.testBit_and, Nat.testBit_two_pow_sub_one, shrN_bit]
    by_cases hti : t ≤ i
    · by_cases him : i < t + m
      · have h64 : i < 64 := by omega
        have hlt : i - t < m := by omega
        simp [hti, him, h64, hlt, Nat.add_comm]
      · have hlt : ¬ (i - t < m) := by omega
        simp [him, hlt]
    · simp [hti]
theorem bigBit {a i : Nat} (ha : a < 18446744073709551616) (hi : 64 ≤ i) : a.testBit i = false := Nat.testBit_lt_two_pow (Nat.lt_of_lt_of_le ha (by
  have : (2 : Nat) ^ 64 ≤ 2 ^ i := Nat.pow_le_pow_right (by decide) hi
  simpa using this))
theorem and_bit (x i : Nat) : x &&& 2 ^ i = if x.testBit i = true then 2 ^ i else 0 := by
  apply Nat.eq_of_testBit_eq
  intro j
  rw [Nat.testBit_and, Nat.testBit_two_pow]
  by_cases hij : i = j
  · subst hij
    cases x.testBit i <;> simp
  · by_cases h : x.testBit i = true <;> simp [h, hij]
/-- A number of 64 bits, the sign among them: is a bit of it 0, is it odd? -/
theorem and2048 {n : Int} (h0 : -9223372036854775808 ≤ n) (h1 : n ≤ 9223372036854775807) : (bits .and .i64 n 2048 = 0) = (n / 2048 % 2 = 0) := by
  have e : bits .and .i64 n 2048 = IntKind.i64.wrap (((BitVec.ofInt 64 n).toNat &&& 2048 : Nat) : Int) := by
    show IntKind.i64.wrap ((BitVec.ofInt 64 n &&& BitVec.ofInt 64 2048).toNat : Int) = _
    rw [BitVec.toNat_and]
    rfl
  have hx : (BitVec.ofInt 64 n).toNat = (n % 18446744073709551616).toNat := by rw [BitVec.toNat_ofInt]; rfl
  have hb := and_bit (BitVec.ofInt 64 n).toNat 11
  simp only [show (2 : Nat) ^ 11 = 2048 by decide, Nat.testBit_eq_decide_div_mod_eq, decide_eq_true_eq] at hb
  rw [e, hb, hx, IntKind.wrap_i64]
  by_cases h : (n % 18446744073709551616).toNat / 2048 % 2 = 1
  · rw [if_pos h]
    apply propext
    constructor
    · intro h2; omega
    · intro h2; omega
  · rw [if_neg h]
    apply propext
    constructor
    · intro _; omega
    · intro _; rfl
theorem and1 {n : Int} (h0 : -9223372036854775808 ≤ n) (h1 : n ≤ 9223372036854775807) : (bits .and .i64 n 1 = 1) = (n % 2 = 1) := by
  have e : bits .and .i64 n 1 = IntKind.i64.wrap (((BitVec.ofInt 64 n).toNat &&& 1 : Nat) : Int) := by
    show IntKind.i64.wrap ((BitVec.ofInt 64 n &&& BitVec.ofInt 64 1).toNat : Int) = _
    rw [BitVec.toNat_and]
    rfl
  have hx : (BitVec.ofInt 64 n).toNat = (n % 18446744073709551616).toNat := by rw [BitVec.toNat_ofInt]; rfl
  rw [e, Nat.and_one_is_mod, hx, IntKind.wrap_i64]
  apply propext
  constructor
  · intro h2; omega
  · intro h2; omega
end Go.Proofs.Ytoljgjnbkejhaaa.Z
