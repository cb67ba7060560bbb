/- What package sect and its reference tell of names, alignments and sections; for any name, number and bytes, with enough rounds. -/
import Derived.Test.YtdhkmaiidbomdafZLe
import Derived.Test.YtdhkmaiidbomdafPx5
import Derived.Test.YtdhkmaiidbomdafPx7
import Derived.Test.YtdhkmaiidbomdafPx8
namespace Go.Proofs.Ytdhkmaiidbomdaf.Z
open Go.RowKit Go.Proofs.Ytdhkmaiidbomdaf.P Go.Proofs.YtdhkmaiidbomdafW.PrintWords Go.Proofs.YtdhkmaiidbomdafW.PrintLast Go.Proofs.YtdhkmaiidbomdafW.PrintMore
set_option linter.unusedSimpArgs false
set_option linter.unusedVariables false

theorem dlen (s : ByteArray) : s.data.toList.length = s.size := by rw [Array.length_toList]; rfl
theorem bt_list (s : ByteArray) (n : Nat) (h : n < s.size) : bt s (n : Int) = ((s.data.toList.getD n 0).toNat : Int) := by
  have h2 : (n : Int).toNat < s.size := by omega
  unfold bt
  rw [dif_pos h2]
  have e : (n : Int).toNat = n := by omega
  simp only [e]
  rw [List.getD_eq_getElem?_getD, List.getElem?_eq_getElem (by rw [dlen]; exact h)]
  rfl
/-- What a loop over a name's bytes comes to. -/
def restIn (s : ByteArray) (i : Nat) : Bool := allIn (s.data.toList.drop i)
theorem restIn_end (s : ByteArray) (i : Nat) (h : s.size ≤ i) : restIn s i = true := by
  unfold restIn allIn
  rw [List.drop_eq_nil_of_le (by rw [dlen]; exact h)]
  rfl
theorem restIn_step (s : ByteArray) (i : Nat) (h : i < s.size) : restIn s i = (decide (33 ≤ bt s (i : Int) ∧ bt s (i : Int) ≤ 126) && restIn s (i + 1)) := by
  unfold restIn allIn
  rw [List.drop_eq_getElem_cons (by rw [dlen]; exact h), List.all_cons, bt_list s i h, List.getD_eq_getElem?_getD, List.getElem?_eq_getElem (by rw [dlen]; exact h)]
  simp only [Option.getD_some]
  congr 1
  apply decide_eq_decide.mpr
  omega
theorem mayname_loop (s : ByteArray) (hs : s.size ≤ 9223372036854775807) (d : Nat) : ∀ (k i : Nat), i + d = s.size → d < k →
    quoinref09_MayName.l0 k s (i : Int) = some (restIn s i && decide (1 ≤ s.size ∧ s.size ≤ 32)) := by
  induction d with
  | zero =>
    intro k i hi hk
    obtain ⟨k, rfl⟩ : ∃ m, k = m + 1 := ⟨k - 1, by omega⟩
    simp only [quoinref09_MayName.l0]
    rw [if_neg (by omega), restIn_end s i (by omega), Bool.true_and]
    by_cases h1 : (s.size : Int) ≥ 1
    · rw [if_pos h1]
      congr 1
      apply decide_eq_decide.mpr
      omega
    · rw [if_neg h1]
      congr 1
      exact (decide_eq_false (by omega)).symm
  | succ d ih =>
    intro k i hi hk
    obtain ⟨k, rfl⟩ : ∃ m, k = m + 1 := ⟨k - 1, by omega⟩
    simp only [quoinref09_MayName.l0]
    rw [if_pos (by omega), if_pos (by omega), restIn_step s i (by omega)]
    by_cases h1 : bt s (i : Int) < 33
    · rw [if_pos h1, decide_eq_false (by omega)]
      rfl
    · rw [if_neg h1]
      by_cases h2 : bt s (i : Int) > 126
      · rw [if_pos h2, decide_eq_false (by omega)]
        rfl
      · rw [if_neg h2, decide_eq_true (by omega), Bool.true_and, wrap64_id (by omega) (by omega)]
        exact ih k (i + 1) (by omega) (by omega)
def nameOk (s : ByteArray) : Bool := allIn s.data.toList && decide (1 ≤ s.size ∧ s.size ≤ 32)
theorem mayname_eq (s : ByteArray) (hs : s.size ≤ 9223372036854775807) (k : Nat) (hk : s.size < k) : quoinref09_MayName.f k s = some (nameOk s) := by
  have := mayname_loop s hs s.size k 0 (by omega) hk
  exact this
theorem begins_eq (s p : ByteArray) : quoinref09_begins.f s p = some (headIs s.data.toList p.data.toList) := by
  unfold quoinref09_begins.f headIs
  rw [dlen, dlen]
  by_cases hl : (s.size : Int) < (p.size : Int)
  · rw [if_pos hl]
    have : ¬ (s.data.toList.take p.size = p.data.toList) := by
      intro h
      have := congrArg List.length h
      rw [List.length_take, dlen, dlen] at this
      omega
    rw [decide_eq_false this]
    rfl
  · rw [if_neg hl, if_pos (by omega), if_pos (by omega)]
    have he : (s.extract 0 p.size).toList = s.data.toList.take p.size := by
      rw [ByteArray.toList_eq, ext_list, List.drop_zero]
    rw [he, ByteArray.toList_eq]
    by_cases h : s.data.toList.take p.size = p.data.toList
    · rw [if_pos h, decide_eq_true h, Bool.true_and]
      by_cases h2 : (s.size : Int) = (p.size : Int)
      · rw [if_pos h2, decide_eq_true (show s.size = p.size by omega), Bool.true_or]
      · rw [if_neg h2, if_pos (by omega), decide_eq_false (show ¬ s.size = p.size by omega), Bool.false_or, bt_list s p.size (by omega)]
        congr 1
        rw [Bool.eq_iff_iff, beq_iff_eq, decide_eq_true_iff]
        omega
    · rw [if_neg h, decide_eq_false h]
      rfl
theorem of_eq (s : ByteArray) (hs : s.size ≤ 9223372036854775807) (k : Nat) (hk : s.size + 10 < k) : quoinref09_Of.f k s = some (if nameOk s = true then (kindOf s.data.toList : Int) else 0) := by
  unfold quoinref09_Of.f
  rw [mayname_eq s hs k (by omega)]
  simp only [Option.bind_some]
  by_cases h : nameOk s = true
  · rw [if_pos h, if_pos h]
    obtain ⟨k, rfl⟩ : ∃ m, k = m + 6 := ⟨k - 6, by omega⟩
    simp only [quoinref09_Of.l0, kindOf, kindNames, kindFrom, rdOf, begins_eq, Option.bind_some]
    simp only [List.length_cons, List.length_nil]
    rw [show wrap64 (0 + 1) = 1 by decide +kernel, show wrap64 (1 + 1) = 2 by decide +kernel, show wrap64 (2 + 1) = 3 by decide +kernel, show wrap64 (3 + 1) = 4 by decide +kernel]
    simp only [show ((0 : Int) < 4) = True from eq_true (by decide), show ((1 : Int) < 4) = True from eq_true (by decide), show ((2 : Int) < 4) = True from eq_true (by decide), show ((3 : Int) < 4) = True from eq_true (by decide), show ((4 : Int) < 4) = False from eq_false (by decide), show ((0 : Int) ≤ 0) = True from eq_true (by decide), show ((0 : Int) ≤ 1) = True from eq_true (by decide), show ((0 : Int) ≤ 2) = True from eq_true (by decide), show ((0 : Int) ≤ 3) = True from eq_true (by decide), if_true, if_false]
    by_cases h1 : headIs s.data.toList [46, 116, 101, 120, 116] = true
    · simp [h1]
    · by_cases h2 : headIs s.data.toList [46, 114, 111, 100, 97, 116, 97] = true
      · simp [h1, h2]
      · by_cases h3 : headIs s.data.toList [46, 100, 97, 116, 97] = true
        · simp [h1, h2, h3]
        · by_cases h4 : headIs s.data.toList [46, 98, 115, 115] = true <;> simp [h1, h2, h3, h4]
  · rw [if_neg h, if_neg h]
theorem kindOf_nil : kindOf [] = 0 := by decide +kernel
theorem kindOf_le (l : List UInt8) : kindOf l ≤ 4 := by
  unfold kindOf kindNames kindFrom kindFrom kindFrom kindFrom kindFrom
  repeat' split
  all_goals omega
theorem kindAns_ref (s : ByteArray) : kindAns s.data.toList = if (if nameOk s = true then (kindOf s.data.toList : Int) else 0) = 0 then (0, 3) else ((if nameOk s = true then (kindOf s.data.toList : Int) else 0), 0) := by
  unfold kindAns nameOk
  rw [dlen]
  by_cases ha : allIn s.data.toList = true
  · by_cases hk : kindOf s.data.toList = 0
    · simp [hk]
    · have h1 : 1 ≤ s.size := by
        rcases Nat.eq_zero_or_pos s.size with h | h
        · exact absurd (by rw [List.eq_nil_of_length_eq_zero (show s.data.toList.length = 0 by rw [dlen]; exact h)]; exact kindOf_nil) hk
        · exact h
      have hk' : ¬ ((kindOf s.data.toList : Int) = 0) := by omega
      by_cases h32 : s.size ≤ 32 <;> simp [ha, hk, h1, h32, hk']
  · simp [ha]
theorem kind_eq (s : ByteArray) (hs : s.size ≤ 9223372036854775807) : sect_Kind.f s = some (kindAns s.data.toList) := by
  unfold sect_Kind.f
  rw [if_pos hs]
def alignOk (n : Int) : Bool := decide (n = 1) || decide (n = 2) || decide (n = 4) || decide (n = 8) || decide (n = 16) || decide (n = 32) || decide (n = 64)
theorem alignOk_iff (n : Int) : alignOk n = true ↔ n = 1 ∨ n = 2 ∨ n = 4 ∨ n = 8 ∨ n = 16 ∨ n = 32 ∨ n = 64 := by
  unfold alignOk
  simp only [Bool.or_eq_true, decide_eq_true_eq]
  omega
theorem ones_all : ∀ n : Fin 64, (bits_OnesCount.f (IntKind.u64.wrap ((n.val : Int) + 1))).map (· == 1) = some (alignOk ((n.val : Int) + 1)) := by decide +kernel
theorem ones_eq (n : Int) (h0 : 0 < n) (h1 : n ≤ 64) : ∃ t, bits_OnesCount.f (IntKind.u64.wrap n) = some t ∧ (t == 1) = alignOk n := by
  have := ones_all ⟨(n - 1).toNat, by omega⟩
  simp only [show (((n - 1).toNat : Nat) : Int) + 1 = n by omega] at this
  obtain ⟨t, ht, he⟩ := Option.map_eq_some_iff.1 this
  exact ⟨t, ht, he⟩
theorem mayalign_eq (n : Int) (k : Nat) (hk : 9 ≤ k) : quoinref09_MayAlign.f k n = some (alignOk n) := by
  obtain ⟨k, rfl⟩ : ∃ m, k = m + 8 := ⟨k - 8, by omega⟩
  unfold quoinref09_MayAlign.f alignOk
  simp only [quoinref09_MayAlign.l0]
  rw [show wrap64 (2 * 1) = 2 by decide +kernel, show wrap64 (2 * 2) = 4 by decide +kernel, show wrap64 (2 * 4) = 8 by decide +kernel, show wrap64 (2 * 8) = 16 by decide +kernel,
    show wrap64 (2 * 16) = 32 by decide +kernel, show wrap64 (2 * 32) = 64 by decide +kernel, show wrap64 (2 * 64) = 128 by decide +kernel]
  simp only [show ((1 : Int) ≤ 64) = True from eq_true (by decide), show ((2 : Int) ≤ 64) = True from eq_true (by decide), show ((4 : Int) ≤ 64) = True from eq_true (by decide), show ((8 : Int) ≤ 64) = True from eq_true (by decide), show ((16 : Int) ≤ 64) = True from eq_true (by decide), show ((32 : Int) ≤ 64) = True from eq_true (by decide), show ((64 : Int) ≤ 64) = True from eq_true (by decide), show ((128 : Int) ≤ 64) = False from eq_false (by decide), if_true, if_false]
  by_cases h1 : n = 1
  · simp [h1]
  by_cases h2 : n = 2
  · simp [h2]
  by_cases h3 : n = 4
  · simp [h3]
  by_cases h4 : n = 8
  · simp [h4]
  by_cases h5 : n = 16
  · simp [h5]
  by_cases h6 : n = 32
  · simp [h6]
  by_cases h7 : n = 64
  · simp [h7]
  simp [h1, h2, h3, h4, h5, h6, h7]
def sizesOk (kd : Int) (len : Nat) (size : Int) : Bool := if kd = 4 then decide (len = 0 ∧ 0 ≤ size ∧ size ≤ 4096) else decide (size = 0 ∧ len ≤ 4096)
theorem sizesOk_bss {kd : Int} (h : kd = 4) (len : Nat) (size : Int) : sizesOk kd len size = decide (len = 0 ∧ 0 ≤ size ∧ size ≤ 4096) := if_pos h
theorem sizesOk_not {kd : Int} (h : ¬ kd = 4) (len : Nat) (size : Int) : sizesOk kd len size = decide (size = 0 ∧ len ≤ 4096) := if_neg h
/-- What both answer of a section. -/
def sectAns (name : ByteArray) (align : Int) (data : List Int) (size : Int) : Int :=
  if (kindAns name.data.toList).2 = 0 ∧ alignOk align = true ∧ sizesOk (kindAns name.data.toList).1 data.length size = true then 0 else 8
theorem check_j0 (k : Nat) (kd e : Int) (al : Bool) (name : ByteArray) (align : Int) (data : List Int) (size : Int) :
    sect_Check.j0 (k + 1) kd e al name align data size = some (if e = 0 ∧ al = true ∧ sizesOk kd data.length size = true then 0 else 8) := by
  simp only [sect_Check.j0]
  by_cases h4 : kd = 4
  · rw [if_pos h4, sizesOk_bss h4]
    by_cases he : e = 0
    · rw [if_pos he]
      cases al
      · simp
      · simp only [if_true]
        by_cases hd : (data.length : Int) = 0
        · rw [if_pos hd]
          by_cases hs : size < 0
          · rw [if_pos hs, decide_eq_false (by omega), if_neg (by simp)]
          · rw [if_neg hs]
            by_cases hs2 : size > 4096
            · rw [if_pos hs2, decide_eq_false (by omega), if_neg (by simp)]
            · rw [if_neg hs2, decide_eq_true (by omega), if_pos (by simp [he])]
        · rw [if_neg hd, decide_eq_false (by omega), if_neg (by simp)]
    · rw [if_neg he, if_neg (fun h => he h.1)]
  · rw [if_neg h4, sizesOk_not h4]
    by_cases he : e = 0
    · rw [if_pos he]
      cases al
      · simp
      · simp only [if_true]
        by_cases hd : size = 0
        · rw [if_pos hd, if_neg (by omega)]
          by_cases hs2 : (data.length : Int) > 4096
          · rw [if_pos hs2, decide_eq_false (by omega), if_neg (by simp)]
          · rw [if_neg hs2, decide_eq_true (by omega), if_pos (by simp [he])]
        · rw [if_neg hd, decide_eq_false (by omega), if_neg (by simp)]
    · rw [if_neg he, if_neg (fun h => he h.1)]
theorem check_eq (name : ByteArray) (align : Int) (data : List Int) (size : Int) (hs : name.size ≤ 9223372036854775807) (k : Nat) (hk : 1 ≤ k) :
    sect_Check.f k name align data size = some (sectAns name align data size) := by
  obtain ⟨k, rfl⟩ : ∃ m, k = m + 1 := ⟨k - 1, by omega⟩
  unfold sect_Check.f sectAns
  rw [kind_eq name hs]
  simp only [Option.bind_some, check_j0]
  have no : ∀ n : Int, ¬ (n > 0 ∧ n ≤ 64) → alignOk n = false := by
    intro n hn
    cases h : alignOk n with
    | false => rfl
    | true => have := (alignOk_iff n).1 h; omega
  by_cases h0 : align > 0
  · rw [if_pos h0]
    by_cases h1 : align ≤ 64
    · rw [if_pos h1]
      obtain ⟨t, ht, he⟩ := ones_eq align h0 h1
      rw [ht]
      simp only [Option.bind_some, he]
    · rw [if_neg h1, no align (by omega)]
  · rw [if_neg h0, no align (by omega)]
theorem refmay_eq (name : ByteArray) (align : Int) (data : List Int) (size : Int) (hs : name.size ≤ 9223372036854775807) (k : Nat) (hk : name.size + 12 < k) :
    quoinref09_May.f k name align data size = some (decide (sectAns name align data size = 0)) := by
  unfold quoinref09_May.f sectAns
  rw [of_eq name hs k (by omega), mayalign_eq align k (by omega), kindAns_ref]
  obtain ⟨k, rfl⟩ : ∃ m, k = m + 1 := ⟨k - 1, by omega⟩
  simp only [Option.bind_some, quoinref09_May.j0]
  generalize (if nameOk name = true then (kindOf name.data.toList : Int) else 0) = K
  by_cases hK : K = 0
  · simp [hK]
  · rw [if_neg hK, if_neg hK]
    cases ha : alignOk align
    · simp
    · simp only [Bool.not_true, Bool.false_eq_true, if_false]
      by_cases h4 : K = 4
      · rw [if_pos h4, sizesOk_bss h4]
        by_cases hd : (data.length : Int) = 0
        · rw [if_pos hd]
          by_cases h0 : size ≥ 0
          · rw [if_pos h0]
            by_cases h1 : size ≤ 4096
            · rw [decide_eq_true h1, decide_eq_true (show data.length = 0 ∧ 0 ≤ size ∧ size ≤ 4096 by omega)]; rfl
            · rw [decide_eq_false h1, decide_eq_false (show ¬ (data.length = 0 ∧ 0 ≤ size ∧ size ≤ 4096) by omega)]; rfl
          · rw [if_neg h0, decide_eq_false (show ¬ (data.length = 0 ∧ 0 ≤ size ∧ size ≤ 4096) by omega)]; rfl
        · rw [if_neg hd, decide_eq_false (show ¬ (data.length = 0 ∧ 0 ≤ size ∧ size ≤ 4096) by omega)]; rfl
      · rw [if_neg h4, sizesOk_not h4]
        by_cases hd : (data.length : Int) ≤ 4096
        · rw [if_pos hd]
          by_cases h1 : size = 0
          · rw [decide_eq_true (show size = 0 ∧ data.length ≤ 4096 by omega), h1]; rfl
          · rw [decide_eq_false (show ¬ (size = 0 ∧ data.length ≤ 4096) by omega)]
            simp [h1]
        · rw [if_neg hd, decide_eq_false (show ¬ (size = 0 ∧ data.length ≤ 4096) by omega)]; rfl
theorem sectAns_two (name : ByteArray) (align : Int) (data : List Int) (size : Int) : sectAns name align data size = 0 ∨ sectAns name align data size = 8 := by
  unfold sectAns
  split
  · exact .inl rfl
  · exact .inr rfl
end Go.Proofs.Ytdhkmaiidbomdaf.Z
