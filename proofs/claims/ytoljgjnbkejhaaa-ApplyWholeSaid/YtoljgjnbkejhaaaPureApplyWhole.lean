/- ApplyWhole: what is put is whole: two values that may be put make different bytes, where their parts differ; to put one, and then another one, is to put the other one alone; of the sums a plus and a minus of one value put nothing; for any bytes, type and two numbers. -/
import Derived.Test.YtoljgjnbkejhaaaZApplyAlive
import Derived.Test.YtoljgjnbkejhaaaZWhole
import Derived.Test.YtoljgjnbkejhaaaPx11
import Derived.Test.YtoljgjnbkejhaaaPx5
namespace Go.Proofs.Ytoljgjnbkejhaaa.Pure
open Go.RowKit Go.Proofs.Ytoljgjnbkejhaaa.P Go.Proofs.YtoljgjnbkejhaaaW.PrintWords Go.Proofs.YtoljgjnbkejhaaaW.PrintLast Go.Proofs.Ytoljgjnbkejhaaa.Z
set_option linter.unusedSimpArgs false
set_option linter.unusedVariables false
theorem sums_whole (kd : Int) : quoinlaw26_sums.f kd = some (decide (isSum kd)) := by
  unfold quoinlaw26_sums.f
  by_cases h : kd ≥ 33
  · rw [if_pos h]
    congr 1
    exact decide_eq_decide.mpr ⟨fun c => ⟨h, c⟩, fun c => c.2⟩
  · rw [if_neg h, decide_eq_false (fun c : isSum kd => h c.1)]
theorem fin_eq {x y : List Int} (hx : AllB x) (hy : AllB y) {a b : Int} (h : x = y ↔ a = b) :
    (if (strOfNums x).toList = (strOfNums y).toList then some (a == b) else some (!(a == b))) = some true := by
  by_cases c : x = y
  · rw [if_pos (by rw [c]), h.1 c]
    simp
  · rw [if_neg (fun e => c (str_inj hx hy e))]
    have : (a == b) = false := by rw [beq_eq_false_iff_ne]; exact fun e => c (h.2 e)
    rw [this]
    rfl
theorem size_of {kd v : Int} {l : List Int} (h : fixErr kd v l.length = 0) {n : Nat} (hf : (fieldAns kd).1 = n) : l.length = n := by
  have := (err_parts h).2.1
  omega
theorem far16 : farAns 16 = 4096 := by decide
theorem far17 : farAns 17 = 1048576 := by decide
theorem far44 : farAns 44 = 256 := by decide
theorem far45 : farAns 45 = 2048 := by decide
/-- A value that may be put of a type with a bound. -/
theorem far_value {kd v : Int} {n : Nat} (hf : farAns kd = 2 ^ n) (hk : ¬ (kd = 26 ∨ kd = 23) ∧ ¬ (kd = 27 ∨ kd = 24 ∨ kd = 28 ∨ kd = 25) ∧ kd ≠ 1) (h : (partAns kd v).2 = 0) :
    (partAns kd v).1 = v ∧ v % 2 ≠ 1 ∧ -(2 ^ n) ≤ v ∧ v < 2 ^ n := by
  have hp : (0 : Int) < 2 ^ n := by
    have : (0 : Int) < ((2 ^ n : Nat) : Int) := by exact_mod_cast Nat.two_pow_pos n
    push_cast at this
    exact this
  unfold partAns at h ⊢
  rw [hf] at h ⊢
  by_cases c1 : v % 2 = 1
  · rw [if_pos ⟨hp, c1⟩] at h; cases h
  rw [if_neg (fun c => c1 c.2)] at h ⊢
  by_cases c2 : v < -(2 ^ n) ∨ v ≥ 2 ^ n
  · rw [if_pos ⟨hp, c2⟩] at h; cases h
  rw [if_neg (fun c => c2 c.2), if_neg hk.1, if_neg hk.2.1, if_neg (fun c => hk.2.2 c.1)]
  exact ⟨rfl, c1, by omega, by omega⟩
theorem high_value {v : Int} (h : (highAns v).2 = 0) : -524288 ≤ (highAns v).1 ∧ (highAns v).1 < 524288 := by
  unfold highAns at h ⊢
  by_cases c : hasParts v
  · rw [if_pos c]; exact c
  · rw [if_neg c] at h; cases h
theorem low_value {v : Int} (h : (lowAns v).2 = 0) : -2048 ≤ (lowAns v).1 ∧ (lowAns v).1 < 2048 := by
  unfold lowAns at h ⊢
  by_cases c : hasParts v
  · rw [if_pos c]; exact low_bounds
  · rw [if_neg c] at h; cases h
theorem part_high {kd : Int} (hk : kd = 26 ∨ kd = 23) (v : Int) : partAns kd v = highAns v := by
  have hf : farAns kd = 0 := by rcases hk with rfl | rfl <;> decide
  unfold partAns
  rw [hf, if_neg (by omega), if_neg (by omega), if_pos hk]
theorem part_low {kd : Int} (hk : kd = 27 ∨ kd = 24 ∨ kd = 28 ∨ kd = 25) (v : Int) : partAns kd v = lowAns v := by
  have hf : farAns kd = 0 := by rcases hk with rfl | rfl | rfl | rfl <;> decide
  unfold partAns
  rw [hf, if_neg (by omega), if_neg (by omega), if_neg (by omega), if_pos hk]
theorem far_iff {l x y : List Int} {kd v w : Int} (hk : kd = 16 ∨ kd = 17 ∨ kd = 44 ∨ kd = 45) (hv : fixErr kd v l.length = 0) (hw : fixErr kd w l.length = 0) (X : Fixed kd v l x) (Y : Fixed kd w l y) : x = y ↔ v = w := by
  have pv := (err_parts hv).2.2.2 (by omega)
  have pw := (err_parts hw).2.2.2 (by omega)
  have go : ∀ n : Nat, (n = 8 ∨ n = 11 ∨ n = 12 ∨ n = 19 ∨ n = 20) → farAns kd = 2 ^ n → (∀ j, 1 ≤ j → j ≤ n → ∃ i, i < 8 * l.length ∧ src (rowsAns kd) i = some j) → (x = y ↔ v = w) := by
    intro n hn hf cover
    have a := far_value hf (by omega) pv
    have b := far_value hf (by omega) pw
    have := rows_iff (by omega) (by omega) (by unfold isSum; omega) hv hw X Y (n := n) (lo := 1) hn (by rw [a.1]; exact a.2.2) (by rw [b.1]; exact b.2.2) (.inr ⟨rfl, by rw [a.1]; exact a.2.1, by rw [b.1]; exact b.2.1⟩) cover
    rw [a.1, b.1] at this
    exact this
  rcases hk with rfl | rfl | rfl | rfl
  · have hl : l.length = 4 := size_of hv (by decide +kernel)
    have c : ∀ j : Fin 13, 1 ≤ j.val → ∃ i : Fin 32, src (rowsAns 16) i.val = some j.val := by decide +kernel
    exact go 12 (by omega) (by decide) (fun j h1 h2 => by obtain ⟨i, hi⟩ := c ⟨j, by omega⟩ h1; exact ⟨i.val, by omega, hi⟩)
  · have hl : l.length = 4 := size_of hv (by decide +kernel)
    have c : ∀ j : Fin 21, 1 ≤ j.val → ∃ i : Fin 32, src (rowsAns 17) i.val = some j.val := by decide +kernel
    exact go 20 (by omega) (by decide) (fun j h1 h2 => by obtain ⟨i, hi⟩ := c ⟨j, by omega⟩ h1; exact ⟨i.val, by omega, hi⟩)
  · have hl : l.length = 2 := size_of hv (by decide +kernel)
    have c : ∀ j : Fin 9, 1 ≤ j.val → ∃ i : Fin 16, src (rowsAns 44) i.val = some j.val := by decide +kernel
    exact go 8 (by omega) (by decide) (fun j h1 h2 => by obtain ⟨i, hi⟩ := c ⟨j, by omega⟩ h1; exact ⟨i.val, by omega, hi⟩)
  · have hl : l.length = 2 := size_of hv (by decide +kernel)
    have c : ∀ j : Fin 12, 1 ≤ j.val → ∃ i : Fin 16, src (rowsAns 45) i.val = some j.val := by decide +kernel
    exact go 11 (by omega) (by decide) (fun j h1 h2 => by obtain ⟨i, hi⟩ := c ⟨j, by omega⟩ h1; exact ⟨i.val, by omega, hi⟩)
theorem high_iff {l x y : List Int} {kd v w : Int} (hk : kd = 26 ∨ kd = 23) (hv : fixErr kd v l.length = 0) (hw : fixErr kd w l.length = 0) (X : Fixed kd v l x) (Y : Fixed kd w l y) : x = y ↔ (highAns v).1 = (highAns w).1 := by
  have pv := (err_parts hv).2.2.2 (by omega)
  have pw := (err_parts hw).2.2.2 (by omega)
  rw [part_high hk] at pv pw
  have bv := high_value pv
  have bw := high_value pw
  have hl : l.length = 4 := size_of hv (by rcases hk with rfl | rfl <;> decide +kernel)
  have c : ∀ j : Fin 20, ∃ i : Fin 32, src (rowsAns kd) i.val = some j.val := by rcases hk with rfl | rfl <;> decide +kernel
  have := rows_iff (by omega) (by omega) (by unfold isSum; omega) hv hw X Y (n := 19) (lo := 0) (by omega) (by rw [part_high hk]; omega) (by rw [part_high hk]; omega) (.inl rfl) (fun j _ h2 => by obtain ⟨i, hi⟩ := c ⟨j, by omega⟩; exact ⟨i.val, by omega, hi⟩)
  rw [part_high hk, part_high hk] at this
  exact this
theorem low_iff {l x y : List Int} {kd v w : Int} (hk : kd = 27 ∨ kd = 24 ∨ kd = 28 ∨ kd = 25) (hv : fixErr kd v l.length = 0) (hw : fixErr kd w l.length = 0) (X : Fixed kd v l x) (Y : Fixed kd w l y) : x = y ↔ (lowAns v).1 = (lowAns w).1 := by
  have pv := (err_parts hv).2.2.2 (by omega)
  have pw := (err_parts hw).2.2.2 (by omega)
  rw [part_low hk] at pv pw
  have bv := low_value pv
  have bw := low_value pw
  have hl : l.length = 4 := size_of hv (by rcases hk with rfl | rfl | rfl | rfl <;> decide +kernel)
  have c : ∀ j : Fin 12, ∃ i : Fin 32, src (rowsAns kd) i.val = some j.val := by rcases hk with rfl | rfl | rfl | rfl <;> decide +kernel
  have := rows_iff (by omega) (by omega) (by unfold isSum; omega) hv hw X Y (n := 11) (lo := 0) (by omega) (by rw [part_low hk]; omega) (by rw [part_low hk]; omega) (.inl rfl) (fun j _ h2 => by obtain ⟨i, hi⟩ := c ⟨j, by omega⟩; exact ⟨i.val, by omega, hi⟩)
  rw [part_low hk, part_low hk] at this
  exact this
theorem part_whole {kd v : Int} (hk : kd = 1 ∨ kd = 2) (h : (partAns kd v).2 = 0) : (partAns kd v).1 = v := by
  have hf : farAns kd = 0 := by rcases hk with rfl | rfl <;> decide
  unfold partAns at h ⊢
  rw [hf] at h ⊢
  rw [if_neg (by omega), if_neg (by omega), if_neg (by omega), if_neg (by omega)] at h ⊢
  by_cases c : kd = 1 ∧ (v < -2147483648 ∨ v ≥ 4294967296)
  · rw [if_pos c] at h; cases h
  · rw [if_neg c]
theorem mod_iff {l x y : List Int} {kd v w : Int} (hk : kd = 1 ∨ kd = 2) (hv : fixErr kd v l.length = 0) (hw : fixErr kd w l.length = 0) (X : Fixed kd v l x) (Y : Fixed kd w l y) : x = y ↔ (u64 v).toNat % 2 ^ (8 * l.length) = (u64 w).toNat % 2 ^ (8 * l.length) := by
  have pv := part_whole hk ((err_parts hv).2.2.2 (by omega))
  have pw := part_whole hk ((err_parts hw).2.2.2 (by omega))
  rw [same_iff (by unfold isSum; omega) hv hw X Y]
  constructor
  · intro h
    apply Nat.eq_of_testBit_eq
    intro j
    rw [Nat.testBit_mod_two_pow, Nat.testBit_mod_two_pow]
    by_cases c : j < 8 * l.length
    · have := h j c
      unfold fixBit at this
      rw [if_neg (by omega), if_pos hk, if_neg (by omega), if_pos hk, pv, pw] at this
      rw [this]
    · simp [c]
  · intro h i hi
    unfold fixBit
    rw [if_neg (by omega), if_pos hk, if_neg (by omega), if_pos hk, pv, pw]
    have := congrArg (fun n => n.testBit i) h
    simp only [Nat.testBit_mod_two_pow, hi, decide_true, Bool.true_and] at this
    exact this
theorem whole_j2 {l x y : List Int} {kd v w : Int} (hv : fixErr kd v l.length = 0) (hw : fixErr kd w l.length = 0) (X : Fixed kd v l x) (Y : Fixed kd w l y) (hr : -9223372036854775808 ≤ v ∧ v ≤ 9223372036854775807) (hr2 : -9223372036854775808 ≤ w ∧ w ≤ 9223372036854775807)
    (hk : kd = 2 ∨ kd = 18 ∨ (kd = 16 ∨ kd = 17 ∨ kd = 44 ∨ kd = 45) ∨ (kd = 26 ∨ kd = 23) ∨ (kd = 27 ∨ kd = 24 ∨ kd = 28 ∨ kd = 25)) (b : Bool) (hb : b = decide (kd = 26 ∨ kd = 23)) (k : Nat) :
    quoinlaw26_ApplyWhole.j2 (k + 1) v w true x y (highAns v).1 (highAns v).2 (highAns w).1 (highAns w).2 (lowAns v).1 (lowAns w).1 kd b = some true := by
  subst hb
  simp only [quoinlaw26_ApplyWhole.j2, if_true]
  by_cases c1 : kd = 26 ∨ kd = 23
  · have pv := (err_parts hv).2.2.2 (by omega)
    have pw := (err_parts hw).2.2.2 (by omega)
    rw [part_high c1] at pv pw
    rw [decide_eq_true c1, if_pos rfl, if_pos pv, if_pos pw]
    exact fin_eq X.bytes Y.bytes (high_iff c1 hv hw X Y)
  · rw [decide_eq_false c1, if_neg (by simp)]
    by_cases c2 : kd = 27 ∨ kd = 24 ∨ kd = 28 ∨ kd = 25
    · have F := fin_eq X.bytes Y.bytes (low_iff c2 hv hw X Y)
      rcases c2 with rfl | rfl | rfl | rfl
      · rw [if_pos rfl]; exact F
      · rw [if_neg (by decide), if_neg (by decide), if_pos rfl]; exact F
      · rw [if_neg (by decide), if_pos rfl]; exact F
      · rw [if_neg (by decide), if_neg (by decide), if_neg (by decide), if_pos rfl]; exact F
    · rw [if_neg (by omega), if_neg (by omega), if_neg (by omega), if_neg (by omega)]
      refine fin_eq X.bytes Y.bytes ?_
      rcases hk with c | c | c | c | c
      · rw [mod_iff (.inr c) hv hw X Y]
        have hl : l.length = 8 := size_of hv (by rw [c]; decide +kernel)
        rw [hl]
        unfold u64
        simp only [Nat.reduceMul, Nat.reducePow]
        omega
      · subst c
        exact call_iff (size_of hv (by decide +kernel)) hv hw X Y
      · exact far_iff c hv hw X Y
      · exact absurd c c1
      · exact absurd c c2
theorem whole_j1 {l x y z : List Int} {kd v w : Int} (hkd : 0 ≤ kd ∧ kd ≤ 255) (hs : ¬ isSum kd) (hv : fixErr kd v l.length = 0) (hw : fixErr kd w l.length = 0) (X : Fixed kd v l x) (Y : Fixed kd w l y) (Z : Fixed kd w x z)
    (hr : -9223372036854775808 ≤ v ∧ v ≤ 9223372036854775807) (hr2 : -9223372036854775808 ≤ w ∧ w ≤ 9223372036854775807) (b : Bool) (hb : b = decide (kd = 43 ∨ kd = 51)) (k : Nat) :
    quoinlaw26_ApplyWhole.j1 (k + 2) kd v w true x y z 0 b = some true := by
  have hz := put_over hs hv hw X Y Z
  subst hb
  simp only [quoinlaw26_ApplyWhole.j1, if_true]
  by_cases c : kd = 43 ∨ kd = 51
  · rw [decide_eq_true c, if_pos rfl, hz]
    simp
  · rw [decide_eq_false c, if_neg (by simp)]
    by_cases c1 : kd = 1
    · rw [if_pos c1]
      refine fin_eq X.bytes Y.bytes ?_
      rw [mod_iff (.inl c1) hv hw X Y]
      have hl : l.length = 4 := size_of hv (by rw [c1]; decide +kernel)
      rw [hl]
      unfold u64
      simp only [Nat.reduceMul, Nat.reducePow]
      omega
    · rw [if_neg c1, high_eq hr, high_eq hr2, low_eq hr, low_eq hr2]
      simp only [Option.bind_some]
      have hk := kinds_list hkd (err_parts hv).1
      have hs2 : ¬ (33 ≤ kd ∧ kd ≤ 40) := hs
      have J := fun b hb => whole_j2 hv hw X Y hr hr2 (by omega) b hb k
      by_cases c2 : kd = 26
      · rw [if_pos c2]
        exact J _ (by simp [c2])
      · rw [if_neg c2]
        exact J _ (by simp [c2, beq_dec])
theorem sum_back {N v M : Int} (h0 : 0 ≤ N) (h1 : N < M) : ((N + v) % M - v) % M = N := by
  rw [Int.sub_emod, Int.emod_emod_of_dvd _ (Int.dvd_refl M), ← Int.sub_emod, show N + v - v = N by omega, Int.emod_eq_of_lt h0 h1]
theorem sum_err {kd v : Int} (hk : 33 ≤ kd ∧ kd ≤ 36) {len : Nat} (h : fixErr kd v len = 0) : fixErr (kd + 4) v len = 0 := by
  have e := err_parts h
  have hf : fieldAns (kd + 4) = fieldAns kd := by
    have : kd = 33 ∨ kd = 34 ∨ kd = 35 ∨ kd = 36 := by omega
    rcases this with rfl | rfl | rfl | rfl <;> decide +kernel
  unfold fixErr
  rw [hf, if_neg (by omega), if_neg (by omega), if_neg (by omega), part_sum (by omega)]
theorem whole_j0 {l x y : List Int} (hl : AllB l) {kd v w : Int} (hkd : 0 ≤ kd ∧ kd ≤ 255) (X : Fixed kd v l x) (Y : Fixed kd w l y)
    (hr : -9223372036854775808 ≤ v ∧ v ≤ 9223372036854775807) (hr2 : -9223372036854775808 ≤ w ∧ w ≤ 9223372036854775807) (b : Bool) (hb : b = true ∨ fixErr kd v l.length = 0 ∧ fixErr kd w l.length = 0) (k : Nat) (hk : 80 ≤ k) :
    quoinlaw26_ApplyWhole.j0 k l kd v w true x y b = some true := by
  obtain ⟨k, rfl⟩ : ∃ m, k = m + 3 := ⟨k - 3, by omega⟩
  simp only [quoinlaw26_ApplyWhole.j0]
  cases b
  · obtain ⟨hv, hw⟩ := hb.resolve_left (by simp)
    have lx := X.len hv
    rw [if_neg (by simp), sums_whole]
    simp only [Option.bind_some, if_true]
    by_cases hs : isSum kd
    · rw [decide_eq_true hs, if_pos rfl]
      have hs2 : 33 ≤ kd ∧ kd ≤ 40 := hs
      by_cases h36 : kd > 36
      · rw [if_pos h36, lx]
        simp
      · have hk4 : (((kd + 37) % 256 - 33) % 256) = kd + 4 := by omega
        obtain ⟨z, g1, Z⟩ := fix_eq X.bytes (kd := kd + 4) (v := v) (by omega) hr (k + 2) (by omega)
        have he := sum_err (kd := kd) (v := v) (by omega) hv
        rw [lx, he] at g1
        rw [if_neg h36, hk4, g1]
        simp only [Option.bind_some, if_true]
        have hze : fixErr (kd + 4) v x.length = 0 := by rw [lx]; exact he
        have e1 := X.plus hv (by omega)
        have e2 := Z.minus hze (by omega)
        have lz := Z.len hze
        have hn := numI_range l hl
        rw [lx, e1, sum_back hn.1 hn.2] at e2
        have : z = l := numI_inj Z.bytes hl (by omega) e2
        rw [this]
        simp
    · rw [decide_eq_false hs, if_neg (by simp)]
      obtain ⟨z, g1, Z⟩ := fix_eq X.bytes hkd hr2 (k + 2) (by omega)
      rw [lx, hw] at g1
      rw [g1]
      simp only [Option.bind_some, if_true]
      have J := fun b hb => whole_j1 hkd hs hv hw X Y Z hr hr2 b hb k
      rw [if_pos (by rw [put_over hs hv hw X Y Z])]
      by_cases c : kd = 43
      · rw [if_pos c]
        exact J _ (by simp [c])
      · rw [if_neg c]
        exact J _ (by simp [c, beq_dec])
  · rw [if_pos rfl]
theorem ApplyWhole : quoinlaw26_ApplyWhole.Pure := by
  intro l kd v w _ _ hl hkd hv hw
  refine ⟨200, ?_⟩
  have hl := allB_of_wf hl
  have hkd := wfu8 hkd
  have hv := wf64 hv
  have hw := wf64 hw
  unfold quoinlaw26_ApplyWhole.f
  rw [alive26_eq (by omega)]
  simp only [Option.bind_some]
  obtain ⟨x, g1, X⟩ := fix_eq hl hkd hv 200 (by omega)
  obtain ⟨y, g2, Y⟩ := fix_eq hl hkd hw 200 (by omega)
  have J := whole_j0 hl hkd X Y hv hw
  rw [g1, g2]
  simp only [Option.bind_some]
  split
  · rfl
  · split
    · rename_i h
      refine J _ ?_ _ (by omega)
      by_cases c : fixErr kd w l.length = 0
      · exact .inr ⟨h, c⟩
      · left
        rw [bne_iff_ne]
        exact c
    · exact J _ (.inl rfl) _ (by omega)
end Go.Proofs.Ytoljgjnbkejhaaa.Pure
