/- What package apply answers, told bit by bit; for any bytes, type and number, with enough rounds. -/
import Derived.Test.YtoljgjnbkejhaaaZFix
namespace Go.Proofs.Ytoljgjnbkejhaaa.Z
open Go.RowKit Go.Proofs.Ytoljgjnbkejhaaa.P Go.Proofs.YtoljgjnbkejhaaaW.PrintWords Go.Proofs.YtoljgjnbkejhaaaW.PrintLast Go.Proofs.YtoljgjnbkejhaaaW.PrintMore
set_option linter.unusedSimpArgs false
set_option linter.unusedVariables false
def bitL (l : List Int) (i : Nat) : Bool := (numN l).testBit i
theorem numN_bytes (c m : Nat) : numN (bytesI (c : Int) m) = c % 2 ^ (8 * m) := by
  unfold numN
  rw [numI_bytesI]
  have : (c : Int) % 2 ^ (8 * m) = ((c % 2 ^ (8 * m) : Nat) : Int) := by push_cast; rfl
  rw [this, Int.toNat_natCast]
theorem bitL_bytes (c m i : Nat) : bitL (bytesI (c : Int) m) i = (decide (i < 8 * m) && c.testBit i) := by
  unfold bitL
  rw [numN_bytes, Nat.testBit_mod_two_pow]
theorem numN_pow {l : List Int} (hl : AllB l) : numN l < 2 ^ (8 * l.length) := by
  have h := numI_range l hl
  unfold numN
  have : ((2 ^ (8 * l.length) : Nat) : Int) = (2 : Int) ^ (8 * l.length) := by push_cast; rfl
  omega
theorem numN_cast {l : List Int} (hl : AllB l) : ((numN l : Nat) : Int) = numI l := by
  have h := numI_range l hl
  unfold numN
  omega
theorem bitL_big {l : List Int} (hl : AllB l) {i : Nat} (h : 8 * l.length ≤ i) : bitL l i = false :=
  Nat.testBit_lt_two_pow (Nat.lt_of_lt_of_le (numN_pow hl) (Nat.pow_le_pow_right (by decide) h))
theorem bytes_ext {a b : List Int} (ha : AllB a) (hb : AllB b) (hlen : a.length = b.length) (h : ∀ i, i < 8 * a.length → bitL a i = bitL b i) : a = b := by
  refine numI_inj ha hb hlen ?_
  rw [← numN_cast ha, ← numN_cast hb]
  congr 1
  apply Nat.eq_of_testBit_eq
  intro i
  by_cases hi : i < 8 * a.length
  · exact h i hi
  · have h1 := bitL_big ha (i := i) (by omega)
    have h2 := bitL_big hb (i := i) (by omega)
    unfold bitL at h1 h2
    rw [h1, h2]
theorem numN_append {a b : List Int} (ha : AllB a) (hb : AllB b) : numN (a ++ b) = 2 ^ (8 * a.length) * numN b + numN a := by
  have h := numI_append a b
  have e := numN_cast (allB_append ha hb)
  have ea := numN_cast ha
  have eb := numN_cast hb
  have : ((numN (a ++ b) : Nat) : Int) = ((2 ^ (8 * a.length) * numN b + numN a : Nat) : Int) := by
    rw [e, h, ← ea, ← eb]
    push_cast
    omega
  exact_mod_cast this
theorem bitL_append {a b : List Int} (ha : AllB a) (hb : AllB b) (i : Nat) : bitL (a ++ b) i = if i < 8 * a.length then bitL a i else bitL b (i - 8 * a.length) := by
  unfold bitL
  rw [numN_append ha hb, Nat.testBit_two_pow_mul_add _ (numN_pow ha)]
/-- What is wrong with a value, by a type and how many bytes there are. -/
def fixErr (kd v : Int) (len : Nat) : Int :=
  if (fieldAns kd).2 ≠ 0 then (fieldAns kd).2 else if (len : Int) ≠ (fieldAns kd).1 then 3 else if kd = 18 then (if v % 2 = 1 then 261 else (highAns v).2) else (partAns kd v).2
/-- A bit of what is put. -/
def fixBit (kd v : Int) (b : Nat → Bool) (i : Nat) : Bool :=
  if kd = 18 then (if i < 32 then pick (src (rowsAns 26) i) (u64 (highAns v).1).toNat (b i) else pick (src (rowsAns 27) (i - 32)) (u64 (lowAns v).1).toNat (b i))
  else if kd = 1 ∨ kd = 2 then (u64 (partAns kd v).1).toNat.testBit i
  else pick (src (rowsAns kd) i) (u64 (partAns kd v).1).toNat (b i)
def isSum (kd : Int) : Prop := 33 ≤ kd ∧ kd ≤ 40
instance (kd : Int) : Decidable (isSum kd) := inferInstanceAs (Decidable (_ ∧ _))
theorem rows_none {kd : Int} (hkd : 0 ≤ kd ∧ kd ≤ 255) (h : kd = 1 ∨ kd = 2 ∨ 33 ≤ kd ∧ kd ≤ 40) : rowsAns kd = [] := by
  have := u8_all (P := fun x => (x = 1 ∨ x = 2 ∨ 33 ≤ x ∧ x ≤ 40) → (rowsAns x).isEmpty = true) (by decide +kernel) hkd h
  exact List.isEmpty_iff.1 this
theorem part_sum {kd v : Int} (h : 33 ≤ kd ∧ kd ≤ 40) : partAns kd v = (v, 0) := by
  have hf : farAns kd = 0 := by
    unfold farAns
    rw [if_neg (by omega), if_neg (by omega), if_neg (by omega), if_neg (by omega)]
  unfold partAns
  rw [hf, if_neg (by omega), if_neg (by omega), if_neg (by omega), if_neg (by omega), if_neg (by omega)]
theorem part_26 (v : Int) : partAns 26 v = highAns v := by
  have hf : farAns 26 = 0 := by decide
  unfold partAns
  rw [hf, if_neg (by omega), if_neg (by omega), if_pos (.inl rfl)]
theorem part_27 (v : Int) : partAns 27 v = lowAns v := by
  have hf : farAns 27 = 0 := by decide
  unfold partAns
  rw [hf, if_neg (by omega), if_neg (by omega), if_neg (by omega), if_pos (.inl rfl)]
/-- What is answered. -/
structure Fixed (kd v : Int) (l out : List Int) : Prop where
  bytes : AllB out
  none_ : fixErr kd v l.length ≠ 0 → out = []
  len : fixErr kd v l.length = 0 → out.length = l.length
  bits_ : fixErr kd v l.length = 0 → ¬ isSum kd → ∀ i, i < 8 * l.length → bitL out i = fixBit kd v (bitL l) i
  plus : fixErr kd v l.length = 0 → 33 ≤ kd ∧ kd ≤ 36 → numI out = (numI l + v) % 2 ^ (8 * l.length)
  minus : fixErr kd v l.length = 0 → 37 ≤ kd ∧ kd ≤ 40 → numI out = (numI l - v) % 2 ^ (8 * l.length)
theorem pow_dvd64 {m : Nat} (h : m ≤ 64) : (2 : Int) ^ m ∣ 18446744073709551616 := by
  refine ⟨2 ^ (64 - m), ?_⟩
  rw [← Int.pow_add, show m + (64 - m) = 64 by omega]
  rfl
theorem start_bits {kd : Int} (hkd : 0 ≤ kd ∧ kd ≤ 255) (h18 : kd ≠ 18) (hs : ¬ isSum kd) (v : Int) (T : Nat) (b : Nat → Bool) (i : Nat) (hb : b i = T.testBit i) :
    pick (src (rowsAns kd) i) (u64 (partAns kd v).1).toNat ((startW kd (partAns kd v).1 T).testBit i) = fixBit kd v b i := by
  unfold fixBit startW isSum at *
  rw [if_neg h18]
  by_cases c : kd = 1 ∨ kd = 2
  · rw [if_pos c, if_pos c, rows_none hkd (by omega)]
    rfl
  · rw [if_neg c, if_neg c, if_neg (show ¬ (33 ≤ kd ∧ kd ≤ 36) by omega), if_neg (show ¬ (37 ≤ kd ∧ kd ≤ 40) by omega), hb]
theorem num_bytes (c m : Nat) : numI (bytesI (c : Int) m) = (c : Int) % 2 ^ (8 * m) := numI_bytesI m c
theorem fixed_other {l : List Int} (hl : AllB l) {kd v : Int} (hkd : 0 ≤ kd ∧ kd ≤ 255) (hv : -9223372036854775808 ≤ v ∧ v ≤ 9223372036854775807) (h18 : kd ≠ 18) (k : Nat) (hk : 60 ≤ k) :
    ∃ out, apply_Fix.f k l kd v = some (out, fixErr kd v l.length) ∧ Fixed kd v l out := by
  have fv := field_vals hkd
  by_cases h : (fieldAns kd).2 ≠ 0 ∨ (l.length : Int) ≠ (fieldAns kd).1 ∨ (partAns kd v).2 ≠ 0 ∨ (fieldAns kd).1 = 0
  · have B := Full.fix_bad (l := l) hkd hv h18 k hk h
    have e : fixErr kd v l.length = if (fieldAns kd).2 ≠ 0 then (fieldAns kd).2 else if (l.length : Int) ≠ (fieldAns kd).1 then 3 else (partAns kd v).2 := by
      unfold fixErr
      rw [if_neg h18]
    have z : fixErr kd v l.length = 0 → l = [] := by
      intro h0
      rw [e] at h0
      by_cases c1 : (fieldAns kd).2 ≠ 0
      · rw [if_pos c1] at h0; exact absurd h0 c1
      · rw [if_neg c1] at h0
        by_cases c2 : (l.length : Int) ≠ (fieldAns kd).1
        · rw [if_pos c2] at h0; cases h0
        · rw [if_neg c2] at h0
          exact List.eq_nil_of_length_eq_zero (by omega)
    refine ⟨[], by rw [e]; exact B, allB_nil, fun _ => rfl, fun h0 => by rw [z h0], fun h0 _ i hi => ?_, fun h0 hs => ?_, fun h0 hs => ?_⟩
    · rw [z h0] at hi; simp at hi
    · rw [z h0]
      show (0 : Int) = (0 + v) % 1
      omega
    · rw [z h0]
      show (0 : Int) = (0 - v) % 1
      omega
  · have g1 : (fieldAns kd).2 = 0 := by omega
    have g2 : (l.length : Int) = (fieldAns kd).1 := by omega
    have g3 : (partAns kd v).2 = 0 := by omega
    have g4 : l.length ≠ 0 := by omega
    obtain ⟨c, h1, h2, h3⟩ := Full.fix_good hl hkd hv h18 g1 g2 g4 g3 k hk
    have e : fixErr kd v l.length = 0 := by
      unfold fixErr
      rw [if_neg (by omega), if_neg (by omega), if_neg h18, g3]
    have hn := numN_lt hl (by omega)
    have hd := pow_dvd64 (m := 8 * l.length) (by omega)
    refine ⟨_, by rw [e]; exact h1, bytesI_allB _ _, fun h0 => absurd e h0, fun _ => bytesI_length _ _, fun _ hs i hi => ?_, fun _ hs => ?_, fun _ hs => ?_⟩
    · rw [bitL_bytes, decide_eq_true hi, Bool.true_and, h3]
      exact start_bits hkd h18 hs v (numN l) (bitL l) i rfl
    · have hc : c = startW kd (partAns kd v).1 (numN l) := by
        apply Nat.eq_of_testBit_eq
        intro i
        rw [h3, rows_none hkd (by omega)]
        rfl
      have hu := u64_range ((numN l : Int) + u64 v)
      rw [hc, startW, if_neg (by omega), if_pos hs, part_sum (by omega), num_bytes, Int.toNat_of_nonneg hu.1, hn.2]
      unfold u64
      rw [Int.emod_emod_of_dvd _ hd, Int.add_emod, Int.emod_emod_of_dvd _ hd, ← Int.add_emod]
    · have hc : c = startW kd (partAns kd v).1 (numN l) := by
        apply Nat.eq_of_testBit_eq
        intro i
        rw [h3, rows_none hkd (by omega)]
        rfl
      have hu := u64_range ((numN l : Int) - u64 v)
      rw [hc, startW, if_neg (by omega), if_neg (by omega), if_pos hs, part_sum (by omega), num_bytes, Int.toNat_of_nonneg hu.1, hn.2]
      unfold u64
      rw [Int.emod_emod_of_dvd _ hd, Int.sub_emod, Int.emod_emod_of_dvd _ hd, ← Int.sub_emod]
theorem field18 : fieldAns 18 = (8, 0) := by decide +kernel
theorem field26 : fieldAns 26 = (4, 0) := by decide +kernel
theorem field27 : fieldAns 27 = (4, 0) := by decide +kernel
theorem highAns_two (v : Int) : (highAns v).2 = 0 ∧ (lowAns v).2 = 0 ∨ (highAns v).2 = 260 := by
  unfold highAns lowAns
  by_cases h : hasParts v
  · rw [if_pos h, if_pos h]; exact .inl ⟨rfl, rfl⟩
  · rw [if_neg h]; exact .inr rfl
theorem fixed_call {l : List Int} (hl : AllB l) {v : Int} (hv : -9223372036854775808 ≤ v ∧ v ≤ 9223372036854775807) (k : Nat) (hk : 60 ≤ k) :
    ∃ out, apply_Fix.f k l 18 v = some (out, fixErr 18 v l.length) ∧ Fixed 18 v l out := by
  have e : fixErr 18 v l.length = if (l.length : Int) ≠ 8 then 3 else if v % 2 = 1 then 261 else (highAns v).2 := by
    unfold fixErr
    rw [field18]
    rw [if_neg (by simp), if_pos rfl]
  have bad : ∀ er, er ≠ 0 → fixErr 18 v l.length = er → Fixed 18 v l [] := fun er h0 he =>
    ⟨allB_nil, fun _ => rfl, fun h => absurd (he.symm.trans h) h0, fun h => absurd (he.symm.trans h) h0, fun h => absurd (he.symm.trans h) h0, fun h => absurd (he.symm.trans h) h0⟩
  unfold apply_Fix.f
  rw [field_eq (by omega) (by omega), field18]
  simp only [Option.bind_some]
  rw [if_pos trivial]
  by_cases h8 : (l.length : Int) = 8
  · rw [if_neg (show ¬ ((l.length : Int) ≠ 8) from fun c => c h8)] at e
    rw [if_pos h8, if_pos trivial]
    unfold apply_call.f
    by_cases ho : v % 2 = 1
    · rw [if_pos ho] at e
      rw [if_pos (by rw [and1 hv.1 hv.2]; exact ho)]
      exact ⟨[], by rw [e]; rfl, bad 261 (by decide) e⟩
    · rw [if_neg ho] at e
      rw [if_neg (by rw [and1 hv.1 hv.2]; exact ho), if_pos (by omega)]
      have ht : (l.take 4).length = 4 := by simp; omega
      have hd : (l.drop 4).length = 4 := by simp; omega
      rcases highAns_two v with ⟨hh, hlo⟩ | hh
      · obtain ⟨c1, a1, a2, a3⟩ := Once.fix_good (l := l.take 4) (allB_take hl 4) (kd := 26) (v := v) (by omega) hv (by omega) (by rw [field26]) (by rw [ht, field26]; rfl) (by omega) (by rw [part_26]; exact hh) k hk
        obtain ⟨c2, b1, b2, b3⟩ := Once.fix_good (l := l.drop 4) (allB_drop hl 4) (kd := 27) (v := v) (by omega) hv (by omega) (by rw [field27]) (by rw [hd, field27]; rfl) (by omega) (by rw [part_27]; exact hlo) k hk
        rw [hh] at e
        rw [a1, b1]
        simp only [Option.bind_some, if_true, ht, hd, bytesI_length]
        rw [if_pos (by decide)]
        simp only [Option.bind_some]
        rw [e]
        refine ⟨_, rfl, allB_append (bytesI_allB _ _) (bytesI_allB _ _), fun h0 => absurd e h0, fun _ => by simp [bytesI_length]; omega, fun _ _ i hi => ?_, fun _ hs => by omega, fun _ hs => by omega⟩
        have hb : bitL l i = if i < 32 then bitL (l.take 4) i else bitL (l.drop 4) (i - 32) := by
          have := bitL_append (allB_take hl 4) (allB_drop hl 4) i
          rw [List.take_append_drop, ht] at this
          exact this
        rw [bitL_append (bytesI_allB _ _) (bytesI_allB _ _), bytesI_length]
        unfold fixBit
        rw [if_pos rfl, hb]
        by_cases h32 : i < 32
        · rw [if_pos (show i < 8 * 4 by omega), if_pos h32, if_pos h32, bitL_bytes, decide_eq_true (show i < 8 * 4 by omega), Bool.true_and, a3, part_26]
          unfold startW
          rw [if_neg (by omega), if_neg (by omega), if_neg (by omega)]
          rfl
        · rw [if_neg (show ¬ i < 8 * 4 by omega), if_neg h32, if_neg h32, bitL_bytes, decide_eq_true (show i - 8 * 4 < 8 * 4 by omega), Bool.true_and, b3, part_27]
          unfold startW
          rw [if_neg (by omega), if_neg (by omega), if_neg (by omega)]
          rfl
      · have B := Once.fix_bad (l := l.take 4) (kd := 26) (v := v) (by omega) hv (by omega) k hk (.inr (.inr (.inl (by rw [part_26, hh]; decide))))
        rw [field26, ht, part_26, hh] at B
        rw [B, e, hh]
        exact ⟨[], rfl, bad 260 (by decide) (by rw [e, hh])⟩
  · rw [if_pos h8] at e
    rw [if_neg h8]
    exact ⟨[], by rw [e], bad 3 (by decide) e⟩
/-- What is answered, for any type. -/
theorem fix_eq {l : List Int} (hl : AllB l) {kd v : Int} (hkd : 0 ≤ kd ∧ kd ≤ 255) (hv : -9223372036854775808 ≤ v ∧ v ≤ 9223372036854775807) (k : Nat) (hk : 60 ≤ k) :
    ∃ out, apply_Fix.f k l kd v = some (out, fixErr kd v l.length) ∧ Fixed kd v l out := by
  by_cases h18 : kd = 18
  · subst h18
    exact fixed_call hl hv k hk
  · exact fixed_other hl hkd hv h18 k hk
end Go.Proofs.Ytoljgjnbkejhaaa.Z
