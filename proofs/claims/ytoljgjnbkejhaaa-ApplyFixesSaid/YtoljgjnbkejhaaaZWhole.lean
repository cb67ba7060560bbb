/- When what is put of two values is the same; for any bytes, type and two values. -/
import Derived.Test.YtoljgjnbkejhaaaZSpec
namespace Go.Proofs.Ytoljgjnbkejhaaa.Z
open Go.RowKit Go.Proofs.Ytoljgjnbkejhaaa.P Go.Proofs.YtoljgjnbkejhaaaW.PrintWords Go.Proofs.YtoljgjnbkejhaaaW.PrintLast Go.Proofs.YtoljgjnbkejhaaaW.PrintMore
set_option linter.unusedSimpArgs false
set_option linter.unusedVariables false
theorem kinds_list {kd : Int} (hkd : 0 ≤ kd ∧ kd ≤ 255) (h : (fieldAns kd).2 = 0) :
    kd = 1 ∨ kd = 2 ∨ kd = 18 ∨ (33 ≤ kd ∧ kd ≤ 40) ∨ kd = 43 ∨ kd = 51 ∨ (kd = 16 ∨ kd = 17 ∨ kd = 44 ∨ kd = 45) ∨ (kd = 26 ∨ kd = 23) ∨ (kd = 27 ∨ kd = 24 ∨ kd = 28 ∨ kd = 25) :=
  u8_all (P := fun x => (fieldAns x).2 = 0 → x = 1 ∨ x = 2 ∨ x = 18 ∨ (33 ≤ x ∧ x ≤ 40) ∨ x = 43 ∨ x = 51 ∨ (x = 16 ∨ x = 17 ∨ x = 44 ∨ x = 45) ∨ (x = 26 ∨ x = 23) ∨ (x = 27 ∨ x = 24 ∨ x = 28 ∨ x = 25)) (by decide +kernel) hkd h
theorem err_parts {kd v : Int} {len : Nat} (h : fixErr kd v len = 0) : (fieldAns kd).2 = 0 ∧ (len : Int) = (fieldAns kd).1 ∧ (kd = 18 → v % 2 ≠ 1 ∧ (highAns v).2 = 0) ∧ (kd ≠ 18 → (partAns kd v).2 = 0) := by
  unfold fixErr at h
  by_cases c1 : (fieldAns kd).2 ≠ 0
  · rw [if_pos c1] at h; exact absurd h c1
  rw [if_neg c1] at h
  by_cases c2 : (len : Int) ≠ (fieldAns kd).1
  · rw [if_pos c2] at h; cases h
  rw [if_neg c2] at h
  refine ⟨by omega, by omega, fun c => ?_, fun c => ?_⟩
  · rw [if_pos c] at h
    by_cases c4 : v % 2 = 1
    · rw [if_pos c4] at h; cases h
    · rw [if_neg c4] at h; exact ⟨c4, h⟩
  · rw [if_neg c] at h; exact h
theorem pick_over (s : Option Nat) (P Q : Nat) (b : Bool) : pick s Q (pick s P b) = pick s Q b := by
  cases s <;> rfl
theorem fixBit_over (kd v w : Int) (b : Nat → Bool) (i : Nat) : fixBit kd w (fun j => fixBit kd v b j) i = fixBit kd w b i := by
  unfold fixBit
  by_cases c1 : kd = 18
  · simp only [if_pos c1]
    by_cases c2 : i < 32
    · simp only [if_pos c2, pick_over]
    · simp only [if_neg c2, pick_over]
  · simp only [if_neg c1]
    by_cases c2 : kd = 1 ∨ kd = 2
    · simp only [if_pos c2]
    · simp only [if_neg c2, pick_over]
theorem fixBit_at (kd v : Int) {b b' : Nat → Bool} {i : Nat} (h : b i = b' i) : fixBit kd v b i = fixBit kd v b' i := by
  unfold fixBit
  rw [h]
/-- What is put behind another one is as if it were put alone. -/
theorem put_over {l x y z : List Int} {kd v w : Int} (hs : ¬ isSum kd) (hv : fixErr kd v l.length = 0) (hw : fixErr kd w l.length = 0) (X : Fixed kd v l x) (Y : Fixed kd w l y) (Z : Fixed kd w x z) : z = y := by
  have lx := X.len hv
  have ly := Y.len hw
  have hz : fixErr kd w x.length = 0 := by rw [lx]; exact hw
  have lz := Z.len hz
  refine bytes_ext Z.bytes Y.bytes (by omega) (fun i hi => ?_)
  rw [Z.bits_ hz hs i (by omega), Y.bits_ hw hs i (by omega)]
  have : bitL x i = fixBit kd v (bitL l) i := X.bits_ hv hs i (by omega)
  rw [fixBit_at kd w (b' := fun j => fixBit kd v (bitL l) j) this, fixBit_over]
theorem same_iff {l x y : List Int} {kd v w : Int} (hs : ¬ isSum kd) (hv : fixErr kd v l.length = 0) (hw : fixErr kd w l.length = 0) (X : Fixed kd v l x) (Y : Fixed kd w l y) :
    x = y ↔ ∀ i, i < 8 * l.length → fixBit kd v (bitL l) i = fixBit kd w (bitL l) i := by
  have lx := X.len hv
  have ly := Y.len hw
  constructor
  · intro h i hi
    rw [← X.bits_ hv hs i hi, ← Y.bits_ hw hs i hi, h]
  · intro h
    refine bytes_ext X.bytes Y.bytes (by omega) (fun i hi => ?_)
    rw [X.bits_ hv hs i (by omega), Y.bits_ hw hs i (by omega)]
    exact h i (by omega)
/-- Numbers that are not too great are told by their lowest bits. -/
theorem eq_of_bits {n : Nat} (hn : n = 8 ∨ n = 11 ∨ n = 12 ∨ n = 19 ∨ n = 20) {p q : Int} (hp : -(2 ^ n) ≤ p ∧ p < 2 ^ n) (hq : -(2 ^ n) ≤ q ∧ q < 2 ^ n)
    (h : ∀ j, j ≤ n → (u64 p).toNat.testBit j = (u64 q).toNat.testBit j) : p = q := by
  have e : (u64 p).toNat % 2 ^ (n + 1) = (u64 q).toNat % 2 ^ (n + 1) := by
    apply Nat.eq_of_testBit_eq
    intro j
    rw [Nat.testBit_mod_two_pow, Nat.testBit_mod_two_pow]
    by_cases c : j < n + 1
    · rw [h j (by omega)]
    · simp [c]
  unfold u64 at e
  rcases hn with rfl | rfl | rfl | rfl | rfl <;> simp only [Nat.reduceAdd, Nat.reducePow, Int.reducePow] at e hp hq <;> omega
theorem even_bit {p : Int} (h : p % 2 ≠ 1) : (u64 p).toNat.testBit 0 = false := by
  rw [Nat.testBit_zero]
  unfold u64
  rw [decide_eq_false]
  omega
theorem pick_some {s : Option Nat} {j : Nat} (h : s = some j) (P : Nat) (b : Bool) : pick s P b = P.testBit j := by
  rw [h]
  rfl
/-- What is put of two values of a type with rows is the same just where the values are. -/
theorem rows_iff {l x y : List Int} {kd v w : Int} (h18 : kd ≠ 18) (h12 : ¬ (kd = 1 ∨ kd = 2)) (hs : ¬ isSum kd) (hv : fixErr kd v l.length = 0) (hw : fixErr kd w l.length = 0) (X : Fixed kd v l x) (Y : Fixed kd w l y)
    {n lo : Nat} (hn : n = 8 ∨ n = 11 ∨ n = 12 ∨ n = 19 ∨ n = 20) (hp : -(2 ^ n) ≤ (partAns kd v).1 ∧ (partAns kd v).1 < 2 ^ n) (hq : -(2 ^ n) ≤ (partAns kd w).1 ∧ (partAns kd w).1 < 2 ^ n)
    (hlo : lo = 0 ∨ lo = 1 ∧ (partAns kd v).1 % 2 ≠ 1 ∧ (partAns kd w).1 % 2 ≠ 1) (cover : ∀ j, lo ≤ j → j ≤ n → ∃ i, i < 8 * l.length ∧ src (rowsAns kd) i = some j) :
    x = y ↔ (partAns kd v).1 = (partAns kd w).1 := by
  rw [same_iff hs hv hw X Y]
  constructor
  · intro h
    refine eq_of_bits hn hp hq (fun j hj => ?_)
    by_cases c : lo ≤ j
    · obtain ⟨i, hi, hsrc⟩ := cover j c hj
      have := h i hi
      unfold fixBit at this
      rw [if_neg h18, if_neg h12, if_neg h18, if_neg h12, pick_some hsrc, pick_some hsrc] at this
      exact this
    · have h0 : j = 0 := by omega
      have hl := hlo.resolve_left (by omega)
      rw [h0, even_bit hl.2.1, even_bit hl.2.2]
  · intro h i _
    unfold fixBit
    rw [if_neg h18, if_neg h12, if_neg h18, if_neg h12, h]
theorem call_iff {l x y : List Int} {v w : Int} (hl : l.length = 8) (hv : fixErr 18 v l.length = 0) (hw : fixErr 18 w l.length = 0) (X : Fixed 18 v l x) (Y : Fixed 18 w l y) : x = y ↔ v = w := by
  have hs : ¬ isSum 18 := by unfold isSum; omega
  have a := (err_parts hv).2.2.1 rfl
  have b := (err_parts hw).2.2.1 rfl
  have pa : hasParts v := by
    by_cases c : hasParts v
    · exact c
    · have := a.2; unfold highAns at this; rw [if_neg c] at this; cases this
  have pb : hasParts w := by
    by_cases c : hasParts w
    · exact c
    · have := b.2; unfold highAns at this; rw [if_neg c] at this; cases this
  have ea : (highAns v).1 = highOf v ∧ (lowAns v).1 = v - 4096 * highOf v := by unfold highAns lowAns; rw [if_pos pa, if_pos pa]; exact ⟨rfl, rfl⟩
  have eb : (highAns w).1 = highOf w ∧ (lowAns w).1 = w - 4096 * highOf w := by unfold highAns lowAns; rw [if_pos pb, if_pos pb]; exact ⟨rfl, rfl⟩
  rw [same_iff hs hv hw X Y]
  constructor
  · intro h
    have h1 : highOf v = highOf w := by
      have pa1 := pa.1
      have pa2 := pa.2
      have pb1 := pb.1
      have pb2 := pb.2
      refine eq_of_bits (n := 19) (by omega) (by omega) (by omega) (fun j hj => ?_)
      have cover : ∀ j : Fin 20, ∃ i : Fin 32, src (rowsAns 26) i.val = some j.val := by decide +kernel
      obtain ⟨i, hi⟩ := cover ⟨j, by omega⟩
      have := h i.val (by omega)
      unfold fixBit at this
      rw [if_pos rfl, if_pos rfl, if_pos i.isLt, if_pos i.isLt, pick_some hi, pick_some hi, ea.1, eb.1] at this
      exact this
    have h2 : v - 4096 * highOf v = w - 4096 * highOf w := by
      have ba := @low_bounds v
      have bb := @low_bounds w
      refine eq_of_bits (n := 11) (by omega) (by omega) (by omega) (fun j hj => ?_)
      have cover : ∀ j : Fin 12, ∃ i : Fin 32, src (rowsAns 27) i.val = some j.val := by decide +kernel
      obtain ⟨i, hi⟩ := cover ⟨j, by omega⟩
      have := h (i.val + 32) (by omega)
      unfold fixBit at this
      rw [if_pos rfl, if_pos rfl, if_neg (by omega), if_neg (by omega), show i.val + 32 - 32 = i.val by omega, pick_some hi, pick_some hi, ea.2, eb.2] at this
      exact this
    omega
  · intro h i _
    rw [h]
end Go.Proofs.Ytoljgjnbkejhaaa.Z
