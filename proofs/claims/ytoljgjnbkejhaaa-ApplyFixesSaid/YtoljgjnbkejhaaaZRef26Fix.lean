/- The reference of layer 26 answers the same as package apply; for any bytes, type and number, with enough rounds. -/
import Derived.Test.YtoljgjnbkejhaaaZRef26Put
namespace Go.Proofs.Ytoljgjnbkejhaaa.Z
open Go.RowKit Go.Proofs.Ytoljgjnbkejhaaa.P Go.Proofs.YtoljgjnbkejhaaaW.PrintWords Go.Proofs.YtoljgjnbkejhaaaW.PrintLast Go.Proofs.YtoljgjnbkejhaaaW.PrintMore
set_option linter.unusedSimpArgs false
set_option linter.unusedVariables false
theorem fixed_unique {kd v : Int} {l a b : List Int} (hkd : 0 ≤ kd ∧ kd ≤ 255) (A : Fixed kd v l a) (B : Fixed kd v l b) : a = b := by
  by_cases h : fixErr kd v l.length = 0
  · have la := A.len h
    have lb := B.len h
    by_cases hs : isSum kd
    · refine numI_inj A.bytes B.bytes (by omega) ?_
      have hs2 : 33 ≤ kd ∧ kd ≤ 40 := hs
      by_cases c : kd ≤ 36
      · rw [A.plus h (by omega), B.plus h (by omega)]
      · rw [A.minus h (by omega), B.minus h (by omega)]
    · refine bytes_ext A.bytes B.bytes (by omega) (fun i hi => ?_)
      rw [A.bits_ h hs i (by omega), B.bits_ h hs i (by omega)]
  · rw [A.none_ h, B.none_ h]
theorem fixed_bits {kd v : Int} {l : List Int} {c : Nat} (h0 : fixErr kd v l.length = 0) (hs : ¬ isSum kd) (h : ∀ i, i < 8 * l.length → c.testBit i = fixBit kd v (bitL l) i) : Fixed kd v l (bytesI (c : Int) l.length) :=
  ⟨bytesI_allB _ _, fun e => absurd h0 e, fun _ => bytesI_length _ _, fun _ _ i hi => by rw [bitL_bytes, decide_eq_true hi, Bool.true_and, h i hi], fun _ c => absurd (show isSum kd from ⟨c.1, by omega⟩) hs, fun _ c => absurd (show isSum kd from ⟨by omega, c.2⟩) hs⟩
theorem fixed_plus {kd v : Int} {l : List Int} (hl : AllB l) (h8 : l.length ≤ 8) (h0 : fixErr kd v l.length = 0) (hk : 33 ≤ kd ∧ kd ≤ 36) : Fixed kd v l (bytesI (((u64 ((numN l : Int) + u64 v)).toNat : Nat) : Int) l.length) := by
  have hn := numN_lt hl h8
  have hd := pow_dvd64 (m := 8 * l.length) (by omega)
  have hu := u64_range ((numN l : Int) + u64 v)
  refine ⟨bytesI_allB _ _, fun e => absurd h0 e, fun _ => bytesI_length _ _, fun _ c => absurd (show isSum kd from ⟨hk.1, by omega⟩) c, fun _ _ => ?_, fun _ c => by omega⟩
  rw [num_bytes, Int.toNat_of_nonneg hu.1, hn.2]
  unfold u64
  rw [Int.emod_emod_of_dvd _ hd, Int.add_emod, Int.emod_emod_of_dvd _ hd, ← Int.add_emod]
theorem fixed_minus {kd v : Int} {l : List Int} (hl : AllB l) (h8 : l.length ≤ 8) (h0 : fixErr kd v l.length = 0) (hk : 37 ≤ kd ∧ kd ≤ 40) : Fixed kd v l (bytesI (((u64 ((numN l : Int) - u64 v)).toNat : Nat) : Int) l.length) := by
  have hn := numN_lt hl h8
  have hd := pow_dvd64 (m := 8 * l.length) (by omega)
  have hu := u64_range ((numN l : Int) - u64 v)
  refine ⟨bytesI_allB _ _, fun e => absurd h0 e, fun _ => bytesI_length _ _, fun _ c => absurd (show isSum kd from ⟨by omega, hk.2⟩) c, fun _ c => by omega, fun _ _ => ?_⟩
  rw [num_bytes, Int.toNat_of_nonneg hu.1, hn.2]
  unfold u64
  rw [Int.emod_emod_of_dvd _ hd, Int.sub_emod, Int.emod_emod_of_dvd _ hd, ← Int.sub_emod]
/-- The word with a value's bits in it, for a type with rows. -/
theorem put_eq26 {kd v : Int} (hk : (kd = 16 ∨ kd = 17 ∨ kd = 44 ∨ kd = 45) ∨ (kd = 26 ∨ kd = 23) ∨ (kd = 27 ∨ kd = 24 ∨ kd = 28 ∨ kd = 25)) (hp : (partAns kd v).2 = 0) (w : Nat) (hw : w < 18446744073709551616) (k : Nat) (hk4 : 400 ≤ k) :
    ∃ r : Nat, quoinref26_put.f k (w : Int) kd v = some (r : Int) ∧ r < 18446744073709551616 ∧ ∀ j, r.testBit j = pick (src (rowsAns kd) j) (u64 (partAns kd v).1).toNat (w.testBit j) := by
  have far : ∀ n : Int, n > 0 → farAns kd = n → ¬ (kd = 26 ∨ kd = 23) → ¬ (kd = 27 ∨ kd = 24 ∨ kd = 28 ∨ kd = 25) → kd ≠ 1 → (partAns kd v).1 = v := by
    intro n hn hf h1 h2 h3
    unfold partAns at hp ⊢
    rw [hf] at hp ⊢
    by_cases c1 : v % 2 = 1
    · rw [if_pos ⟨hn, c1⟩] at hp; cases hp
    rw [if_neg (fun c => c1 c.2)] at hp ⊢
    by_cases c2 : v < -n ∨ v ≥ n
    · rw [if_pos ⟨hn, c2⟩] at hp; cases hp
    rw [if_neg (fun c => c2 c.2), if_neg h1, if_neg h2, if_neg (fun c => h3 c.1)]
  have parts : (kd = 26 ∨ kd = 23) ∨ (kd = 27 ∨ kd = 24 ∨ kd = 28 ∨ kd = 25) → hasParts v := by
    intro hc
    have hf : farAns kd = 0 := by rcases hc with (rfl | rfl) | (rfl | rfl | rfl | rfl) <;> decide
    by_cases c : hasParts v
    · exact c
    · exfalso
      unfold partAns at hp
      rw [hf, if_neg (by omega), if_neg (by omega)] at hp
      rcases hc with hc | hc
      · rw [if_pos hc] at hp
        unfold highAns at hp
        rw [if_neg c] at hp
        cases hp
      · rw [if_neg (by omega), if_pos hc] at hp
        unfold lowAns at hp
        rw [if_neg c] at hp
        cases hp
  have high : (kd = 26 ∨ kd = 23) → (partAns kd v).1 = highOf v := by
    intro hc
    have hf : farAns kd = 0 := by rcases hc with rfl | rfl <;> decide
    unfold partAns
    rw [hf, if_neg (by omega), if_neg (by omega), if_pos hc, highAns, if_pos (parts (.inl hc))]
  have low : (kd = 27 ∨ kd = 24 ∨ kd = 28 ∨ kd = 25) → (partAns kd v).1 = v - 4096 * highOf v := by
    intro hc
    have hf : farAns kd = 0 := by rcases hc with rfl | rfl | rfl | rfl <;> decide
    unfold partAns
    rw [hf, if_neg (by omega), if_neg (by omega), if_neg (by omega), if_pos hc, lowAns, if_pos (parts (.inr hc))]
  rcases hk with (rfl | rfl | rfl | rfl) | (rfl | rfl) | (rfl | rfl | rfl | rfl)
  · rw [far 4096 (by omega) (by decide) (by omega) (by omega) (by omega)]; exact put16 w hw v k hk4
  · rw [far 1048576 (by omega) (by decide) (by omega) (by omega) (by omega)]; exact put17 w hw v k hk4
  · rw [far 256 (by omega) (by decide) (by omega) (by omega) (by omega)]; exact put44 w hw v k hk4
  · rw [far 2048 (by omega) (by decide) (by omega) (by omega) (by omega)]; exact put45 w hw v k hk4
  · rw [high (by omega)]; exact put26 w hw v (parts (by omega)) k hk4
  · rw [high (by omega), rows23]; exact put23 w hw v (parts (by omega)) k hk4
  · rw [low (by omega)]; exact put27 w hw v (parts (by omega)) k hk4
  · rw [low (by omega), rows24]; exact put24 w hw v (parts (by omega)) k hk4
  · rw [low (by omega)]; exact put28 w hw v (parts (by omega)) k hk4
  · rw [low (by omega), rows25]; exact put25 w hw v (parts (by omega)) k hk4
theorem num_nat {l : List Int} (hl : AllB l) (h8 : l.length ≤ 8) : IntKind.u64.wrap (wrap64 (numI l)) = ((numN l : Nat) : Int) := by
  have hn := numN_lt hl h8
  rw [wrapu64, u64_wrap64 (by omega) (by omega), hn.2]
theorem part_self {kd v : Int} (hk : kd = 1 ∨ kd = 2) (h : (partAns kd v).2 = 0) : (partAns kd v).1 = v := by
  have hf : farAns kd = 0 := by rcases hk with rfl | rfl <;> decide
  unfold partAns at h ⊢
  rw [hf] at h ⊢
  rw [if_neg (by omega), if_neg (by omega), if_neg (by omega), if_neg (by omega)] at h ⊢
  by_cases c : kd = 1 ∧ (v < -2147483648 ∨ v ≥ 4294967296)
  · rw [if_pos c] at h; cases h
  · rw [if_neg c]
theorem reffixed_other {l : List Int} (hl : AllB l) {kd v : Int} (hkd : 0 ≤ kd ∧ kd ≤ 255) (h18 : kd ≠ 18) (h0 : fixErr kd v l.length = 0) (k : Nat) (hk : 500 ≤ k) : ∃ out, quoinref26_Fixed.f k l kd v = some out ∧ Fixed kd v l out := by
  obtain ⟨k, rfl⟩ : ∃ m, k = m + 5 := ⟨k - 5, by omega⟩
  have e := err_parts h0
  have fv := field_vals hkd
  have h8 : l.length ≤ 8 := by omega
  have hn := numN_lt hl h8
  have hnum := number_eq l hl h8
  have hnn := num_nat hl h8
  have ks := kinds_list hkd e.1
  have hpart := e.2.2.2 h18
  simp only [quoinref26_Fixed.f, if_neg h18]
  by_cases c0 : kd = 43 ∨ kd = 51
  · have hz : l = [] := List.eq_nil_of_length_eq_zero (by
      have : (fieldAns kd).1 = 0 := by rcases c0 with rfl | rfl <;> decide +kernel
      omega)
    refine ⟨[], ?_, allB_nil, fun _ => rfl, fun _ => by rw [hz], fun _ _ i hi => by rw [hz] at hi; simp at hi, fun _ c => by omega, fun _ c => by omega⟩
    by_cases c : kd = 43
    · simp only [if_pos c, quoinref26_Fixed.j0, if_true]
    · have c51 : kd = 51 := by omega
      subst c51
      simp only [if_neg c, quoinref26_Fixed.j0, beq_self_eq_true, if_true]
  · have hne : (kd == 51) = false := by rw [beq_eq_false_iff_ne]; omega
    simp only [if_neg (show ¬ kd = 43 by omega), hne, quoinref26_Fixed.j0, Bool.false_eq_true, if_false]
    by_cases c1 : kd = 1 ∨ kd = 2
    · have hP := u64_nat v
      have hc : quoinref26_cut.f (k + 2) (IntKind.u64.wrap v) (l.length : Int) = some (bytesI (((u64 v).toNat : Nat) : Int) l.length) := by rw [hP.1]; exact cut_eq _ hP.2 l.length h8 _ (by omega)
      refine ⟨bytesI ((u64 v).toNat : Int) l.length, ?_, fixed_bits h0 (fun c : isSum kd => by have := c.1; omega) (fun i hi => ?_)⟩
      · by_cases c : kd = 1
        · simp only [if_pos c, quoinref26_Fixed.j1, if_true, hc, Option.bind_some]
        · have c2 : kd = 2 := by omega
          subst c2
          simp only [if_neg c, quoinref26_Fixed.j1, beq_self_eq_true, if_true, hc, Option.bind_some]
      · unfold fixBit
        rw [if_neg h18, if_pos c1, part_self c1 hpart]
    · have hne2 : (kd == 2) = false := by rw [beq_eq_false_iff_ne]; omega
      simp only [if_neg (show ¬ kd = 1 by omega), hne2, quoinref26_Fixed.j1, Bool.false_eq_true, if_false]
      have hP := u64_nat v
      by_cases c2 : 33 ≤ kd ∧ kd ≤ 36
      · have hA := u64_nat ((numN l : Int) + u64 v)
        have hc : quoinref26_cut.f (k + 1) (IntKind.u64.wrap ((numN l : Int) + u64 v)) (l.length : Int) = some (bytesI (((u64 ((numN l : Int) + u64 v)).toNat : Nat) : Int) l.length) := by rw [hA.1]; exact cut_eq _ hA.2 l.length h8 _ (by omega)
        refine ⟨_, ?_, fixed_plus hl h8 h0 c2⟩
        simp only [if_pos (show kd ≥ 33 by omega), decide_eq_true (show kd ≤ 36 by omega), quoinref26_Fixed.j2, if_true, hnum (k + 1) (by omega), Option.bind_some, hnn, wrapu64 v, hc]
      · have hj2 : ∀ b, b = false → quoinref26_Fixed.j2 (k + 2) l kd v (l.length : Int) b = if kd ≥ 37 then quoinref26_Fixed.j3 (k + 1) l kd v (l.length : Int) (decide (kd ≤ 40)) else quoinref26_Fixed.j3 (k + 1) l kd v (l.length : Int) false := by
          intro b hb
          subst hb
          simp only [quoinref26_Fixed.j2, Bool.false_eq_true, if_false]
        have e2 : (if kd ≥ 33 then quoinref26_Fixed.j2 (k + 2) l kd v (l.length : Int) (decide (kd ≤ 36)) else quoinref26_Fixed.j2 (k + 2) l kd v (l.length : Int) false) = if kd ≥ 37 then quoinref26_Fixed.j3 (k + 1) l kd v (l.length : Int) (decide (kd ≤ 40)) else quoinref26_Fixed.j3 (k + 1) l kd v (l.length : Int) false := by
          by_cases c : kd ≥ 33
          · rw [if_pos c]
            exact hj2 _ (decide_eq_false (by omega))
          · rw [if_neg c]
            exact hj2 _ rfl
        rw [e2]
        by_cases c3 : 37 ≤ kd ∧ kd ≤ 40
        · have hA := u64_nat ((numN l : Int) - u64 v)
          have hc : quoinref26_cut.f k (IntKind.u64.wrap ((numN l : Int) - u64 v)) (l.length : Int) = some (bytesI (((u64 ((numN l : Int) - u64 v)).toNat : Nat) : Int) l.length) := by rw [hA.1]; exact cut_eq _ hA.2 l.length h8 _ (by omega)
          refine ⟨_, ?_, fixed_minus hl h8 h0 c3⟩
          simp only [if_pos c3.1, decide_eq_true c3.2, quoinref26_Fixed.j3, if_true, hnum k (by omega), Option.bind_some, hnn, wrapu64 v, hc]
        · obtain ⟨r, r1, r2, r3⟩ := put_eq26 (kd := kd) (v := v) (by omega) hpart (numN l) hn.1 k (by omega)
          have hc := cut_eq r r2 l.length h8 k (by omega)
          refine ⟨bytesI (r : Int) l.length, ?_, fixed_bits h0 (fun c : isSum kd => by have := c.1; have := c.2; omega) (fun i hi => ?_)⟩
          · have e3 : (if kd ≥ 37 then quoinref26_Fixed.j3 (k + 1) l kd v (l.length : Int) (decide (kd ≤ 40)) else quoinref26_Fixed.j3 (k + 1) l kd v (l.length : Int) false) = quoinref26_Fixed.j3 (k + 1) l kd v (l.length : Int) false := by
              by_cases c : kd ≥ 37
              · rw [if_pos c, decide_eq_false (show ¬ kd ≤ 40 by omega)]
              · rw [if_neg c]
            rw [e3]
            simp only [quoinref26_Fixed.j3, Bool.false_eq_true, if_false, hnum k (by omega), Option.bind_some, hnn, r1, hc]
          · unfold fixBit
            rw [if_neg h18, if_neg c1, r3]
            rfl
theorem reffixed_eq {l : List Int} (hl : AllB l) {kd v : Int} (hkd : 0 ≤ kd ∧ kd ≤ 255) (h0 : fixErr kd v l.length = 0) (k : Nat) (hk : 600 ≤ k) : ∃ out, quoinref26_Fixed.f k l kd v = some out ∧ Fixed kd v l out := by
  by_cases h18 : kd = 18
  · subst h18
    obtain ⟨k, rfl⟩ : ∃ m, k = m + 1 := ⟨k - 1, by omega⟩
    have e := err_parts h0
    have hlen : l.length = 8 := by
      have := e.2.1
      rw [field18] at this
      simp only at this
      omega
    have hpp := (e.2.2.1 rfl).2
    have hlow : (lowAns v).2 = 0 := by
      rcases highAns_two v with c | c
      · exact c.2
      · rw [c] at hpp; cases hpp
    have ht : (l.take 4).length = 4 := by simp; omega
    have hd : (l.drop 4).length = 4 := by simp; omega
    have z1 : fixErr 26 v (l.take 4).length = 0 := by
      unfold fixErr
      rw [field26, ht, if_neg (by simp), if_neg (by decide), if_neg (by decide), part_26, hpp]
    have z2 : fixErr 27 v (l.drop 4).length = 0 := by
      unfold fixErr
      rw [field27, hd, if_neg (by simp), if_neg (by decide), if_neg (by decide), part_27, hlow]
    obtain ⟨a, a1, a2⟩ := reffixed_other (allB_take hl 4) (kd := 26) (v := v) (by omega) (by omega) z1 k (by omega)
    obtain ⟨b, b1, b2⟩ := reffixed_other (allB_drop hl 4) (kd := 27) (v := v) (by omega) (by omega) z2 k (by omega)
    have la := a2.len z1
    have lb := b2.len z2
    simp only [quoinref26_Fixed.f, if_true]
    rw [if_pos (by omega), a1, b1]
    simp only [Option.bind_some]
    rw [if_pos (by omega)]
    refine ⟨_, rfl, allB_append a2.bytes b2.bytes, fun c => absurd h0 c, fun _ => by rw [List.length_append]; omega, fun _ _ i hi => ?_, fun _ c => by omega, fun _ c => by omega⟩
    have hb : bitL l i = if i < 32 then bitL (l.take 4) i else bitL (l.drop 4) (i - 32) := by
      have := bitL_append (allB_take hl 4) (allB_drop hl 4) i
      rw [List.take_append_drop, ht] at this
      exact this
    rw [bitL_append a2.bytes b2.bytes, la, ht]
    unfold fixBit
    rw [if_pos rfl, hb]
    by_cases h32 : i < 32
    · rw [if_pos (show i < 8 * 4 by omega), if_pos h32, if_pos h32, a2.bits_ z1 (by unfold isSum; omega) i (by omega)]
      unfold fixBit
      rw [if_neg (by omega), if_neg (by omega), part_26]
    · rw [if_neg (show ¬ i < 8 * 4 by omega), if_neg h32, if_neg h32, show i - 8 * 4 = i - 32 by omega, b2.bits_ z2 (by unfold isSum; omega) (i - 32) (by omega)]
      unfold fixBit
      rw [if_neg (by omega), if_neg (by omega), part_27]
  · exact reffixed_other hl hkd h18 h0 k (by omega)
theorem limit_eq (kd : Int) : quoinref26_limit.f kd = some (farAns kd) := by
  unfold quoinref26_limit.f farAns
  repeat' split
  all_goals rfl
theorem odd_eq (v : Int) : (Int.tmod v 2 != 0) = decide (v % 2 = 1) := by
  have h := Int.tmod_add_mul_tdiv v 2
  by_cases c : v % 2 = 1
  · rw [decide_eq_true c, bne_iff_ne]
    intro hz
    omega
  · rw [decide_eq_false c, bne_eq_false_iff_eq]
    rcases Int.le_total 0 v with hv | hv
    · rw [Int.tmod_eq_emod_of_nonneg hv]; omega
    · obtain ⟨p, hp⟩ : ∃ p, v = -p := ⟨-v, by omega⟩
      rw [hp, Int.neg_tmod, Int.tmod_eq_emod_of_nonneg (by omega)]
      omega
def wrongAns (kd v : Int) : Int := if kd = 18 then (if v % 2 = 1 then 261 else (highAns v).2) else (partAns kd v).2
theorem wrong_j2 {v : Int} (h : -9223372036854775808 ≤ v ∧ v ≤ 9223372036854775807) (b : Bool) (k : Nat) : quoinref26_Wrong.j2 (k + 1) v b = some (if b = true then (highAns v).2 else 0) := by
  simp only [quoinref26_Wrong.j2, refparts_eq h, Option.bind_some]
  cases b
  · simp
  · unfold highAns
    by_cases c : hasParts v
    · simp [c]
    · simp [c]
theorem highlow (v : Int) : (lowAns v).2 = (highAns v).2 := by
  unfold lowAns highAns
  split <;> rfl
theorem wrong_j1 {v : Int} (h : -9223372036854775808 ≤ v ∧ v ≤ 9223372036854775807) (kd : Int) (b : Bool) (k : Nat) :
    quoinref26_Wrong.j1 (k + 2) kd v b = some (if b = true then 260 else if kd = 1 then (if v < -2147483648 ∨ v ≥ 4294967296 then 260 else 0) else if kd = 26 ∨ kd = 27 ∨ kd = 28 ∨ kd = 23 ∨ kd = 24 ∨ kd = 25 ∨ kd = 18 then (highAns v).2 else 0) := by
  simp only [quoinref26_Wrong.j1, wrong_j2 h]
  cases b
  · simp only [Bool.false_eq_true, if_false]
    by_cases c1 : kd = 1
    · rw [if_pos c1, if_pos c1]
      by_cases c2 : v < -2147483648
      · rw [if_pos c2, if_pos (.inl c2)]
      · rw [if_neg c2]
        by_cases c3 : v ≥ 4294967296
        · rw [if_pos c3, if_pos (.inr c3)]
        · rw [if_neg c3, if_neg (by omega)]
    · rw [if_neg c1, if_neg c1]
      by_cases c : kd = 26 ∨ kd = 27 ∨ kd = 28 ∨ kd = 23 ∨ kd = 24 ∨ kd = 25 ∨ kd = 18
      · rw [if_pos c]
        rcases c with rfl | rfl | rfl | rfl | rfl | rfl | rfl <;> simp
      · rw [if_neg c, if_neg (by omega), if_neg (by omega), if_neg (by omega), if_neg (by omega), if_neg (by omega), if_neg (by omega)]
        have : (kd == 18) = false := by rw [beq_eq_false_iff_ne]; omega
        rw [this]
        rfl
  · rw [if_pos rfl, if_pos rfl]
theorem wrong_eq {kd v : Int} (h : -9223372036854775808 ≤ v ∧ v ≤ 9223372036854775807) (k : Nat) (hk : 3 ≤ k) : quoinref26_Wrong.f k kd v = some (wrongAns kd v) := by
  obtain ⟨k, rfl⟩ : ∃ m, k = m + 3 := ⟨k - 3, by omega⟩
  have hf := far_vals kd
  unfold quoinref26_Wrong.f wrongAns
  rw [limit_eq, odd_eq]
  simp only [Option.bind_some, quoinref26_Wrong.j0, wrong_j1 h]
  by_cases c : farAns kd > 0
  · have hk4 : kd = 16 ∨ kd = 17 ∨ kd = 44 ∨ kd = 45 := by
      unfold farAns at c
      by_cases d1 : kd = 16
      · omega
      by_cases d2 : kd = 17
      · omega
      by_cases d3 : kd = 44
      · omega
      by_cases d4 : kd = 45
      · omega
      rw [if_neg d1, if_neg d2, if_neg d3, if_neg d4] at c
      omega
    rw [if_pos c, if_neg (show ¬ kd = 18 by omega)]
    unfold partAns
    by_cases c1 : v % 2 = 1
    · rw [decide_eq_true c1, if_pos rfl, if_pos ⟨c, c1⟩]
    · rw [decide_eq_false c1, if_neg (by simp), if_pos c, if_neg (show ¬ (farAns kd > 0 ∧ v % 2 = 1) from fun h => c1 h.2), wrap64_id (n := -farAns kd) (by omega) (by omega)]
      by_cases c2 : v < -farAns kd
      · rw [if_pos c2, if_pos trivial, if_pos ⟨c, .inl c2⟩]
      · rw [if_neg c2]
        by_cases c3 : v ≥ farAns kd
        · rw [decide_eq_true c3, if_pos rfl, if_pos ⟨c, .inr c3⟩]
        · rw [decide_eq_false c3, if_neg (by simp), if_neg (show ¬ kd = 1 by omega), if_neg (show ¬ (kd = 26 ∨ kd = 27 ∨ kd = 28 ∨ kd = 23 ∨ kd = 24 ∨ kd = 25 ∨ kd = 18) by omega), if_neg (show ¬ (farAns kd > 0 ∧ (v < -farAns kd ∨ v ≥ farAns kd)) by omega), if_neg (by omega), if_neg (by omega), if_neg (by omega)]
  · rw [if_neg c]
    by_cases c18 : kd = 18
    · rw [if_pos c18, if_pos c18, if_neg c]
      by_cases c1 : v % 2 = 1
      · rw [decide_eq_true c1, if_pos rfl, if_pos c1]
      · rw [decide_eq_false c1, if_neg (by simp), if_neg c1, if_neg (by simp), if_neg (show ¬ kd = 1 by omega), if_pos (show kd = 26 ∨ kd = 27 ∨ kd = 28 ∨ kd = 23 ∨ kd = 24 ∨ kd = 25 ∨ kd = 18 by omega)]
    · rw [if_neg c18, if_neg c18, if_neg (by simp), if_neg c, if_neg (by simp)]
      unfold partAns
      rw [if_neg (show ¬ (farAns kd > 0 ∧ v % 2 = 1) from fun h => c h.1), if_neg (show ¬ (farAns kd > 0 ∧ (v < -farAns kd ∨ v ≥ farAns kd)) from fun h => c h.1)]
      by_cases d1 : kd = 1
      · rw [if_pos d1, if_neg (show ¬ (kd = 26 ∨ kd = 23) by omega), if_neg (show ¬ (kd = 27 ∨ kd = 24 ∨ kd = 28 ∨ kd = 25) by omega)]
        by_cases d2 : v < -2147483648 ∨ v ≥ 4294967296
        · rw [if_pos d2, if_pos ⟨d1, d2⟩]
        · rw [if_neg d2, if_neg (fun h => d2 h.2)]
      · rw [if_neg d1]
        by_cases d2 : kd = 26 ∨ kd = 23
        · rw [if_pos (show kd = 26 ∨ kd = 27 ∨ kd = 28 ∨ kd = 23 ∨ kd = 24 ∨ kd = 25 ∨ kd = 18 by omega), if_pos d2]
        · rw [if_neg d2]
          by_cases d3 : kd = 27 ∨ kd = 24 ∨ kd = 28 ∨ kd = 25
          · rw [if_pos (show kd = 26 ∨ kd = 27 ∨ kd = 28 ∨ kd = 23 ∨ kd = 24 ∨ kd = 25 ∨ kd = 18 by omega), if_pos d3, highlow]
          · rw [if_neg (show ¬ (kd = 26 ∨ kd = 27 ∨ kd = 28 ∨ kd = 23 ∨ kd = 24 ∨ kd = 25 ∨ kd = 18) by omega), if_neg d3, if_neg (fun h => d1 h.1)]
theorem reffix_eq {l : List Int} (hl : AllB l) {kd v : Int} (hkd : 0 ≤ kd ∧ kd ≤ 255) (hv : -9223372036854775808 ≤ v ∧ v ≤ 9223372036854775807) (k : Nat) (hk : 600 ≤ k) :
    ∃ out, quoinref26_Fix.f k l kd v = some (out, fixErr kd v l.length) ∧ Fixed kd v l out := by
  have fv := field_vals hkd
  have bad : fixErr kd v l.length ≠ 0 → Fixed kd v l [] := fun h => ⟨allB_nil, fun _ => rfl, fun e => absurd e h, fun e => absurd e h, fun e => absurd e h, fun e => absurd e h⟩
  unfold quoinref26_Fix.f
  rw [about_eq hkd (by omega), wrong_eq hv k (by omega)]
  simp only [Option.bind_some]
  by_cases c1 : (fieldAns kd).2 = 0
  · rw [if_pos c1, if_neg (by omega)]
    by_cases c2 : (l.length : Int) = (fieldAns kd).1
    · have e : fixErr kd v l.length = wrongAns kd v := by
        unfold fixErr wrongAns
        rw [if_neg (by omega), if_neg (by omega)]
      rw [if_pos c2, ← e]
      by_cases c3 : fixErr kd v l.length = 0
      · obtain ⟨out, o1, o2⟩ := reffixed_eq hl hkd c3 k hk
        rw [if_pos c3, o1, c3]
        exact ⟨out, rfl, o2⟩
      · rw [if_neg c3]
        exact ⟨[], rfl, bad c3⟩
    · have e : fixErr kd v l.length = 3 := by
        unfold fixErr
        rw [if_neg (by omega), if_pos c2]
      rw [if_neg c2, e]
      exact ⟨[], rfl, bad (by rw [e]; decide)⟩
  · have e : fixErr kd v l.length = 2 := by
      unfold fixErr
      rw [if_pos c1]
      omega
    rw [if_neg c1, if_pos (by decide), e]
    exact ⟨[], rfl, bad (by rw [e]; decide)⟩
end Go.Proofs.Ytoljgjnbkejhaaa.Z
