/- What package sect and its reference tell of names, alignments and sections; for any name, number and bytes, with enough rounds. -/
import Derived.Test.YtdhkmaiidbomdacZLe
import Derived.Test.YtdhkmaiidbomdacPx2
namespace Go.Proofs.Ytdhkmaiidbomdac.Z
open Go.RowKit Go.Proofs.Ytdhkmaiidbomdac.P Go.Proofs.YtdhkmaiidbomdacW.PrintWords Go.Proofs.YtdhkmaiidbomdacW.PrintLast Go.Proofs.YtdhkmaiidbomdacW.PrintMore
set_option linter.unusedSimpArgs false
set_option linter.unusedVariables false

theorem dlen (s : ByteArray) : s.data.toList.length = s.size := by rw [Array.length_toList]; rfl
theorem bt_list (s : ByteArray) (n : Nat) (h : n < s.size) : bt s (n : Int) = ((s.data.toList.getD n 0).toNat : Int) := by
  have h2 : (n : Int).toNat < s.size := by omega
  unfold bt
  rw [dif_pos h2]
  have e : (n : Int).toNat = n := by omega
  simp only [e]
  rw [List.getD_eq_getElem?_getD, List.getElem?_eq_getElem (by rw [dlen]; exact h)]
  rfl
/-- What a loop over a name's bytes comes to. -/
def restIn (s : ByteArray) (i : Nat) : Bool := allIn (s.data.toList.drop i)
theorem restIn_end (s : ByteArray) (i : Nat) (h : s.size ≤ i) : restIn s i = true := by
  unfold restIn allIn
  rw [List.drop_eq_nil_of_le (by rw [dlen]; exact h)]
  rfl
theorem restIn_step (s : ByteArray) (i : Nat) (h : i < s.size) : restIn s i = (decide (33 ≤ bt s (i : Int) ∧ bt s (i : Int) ≤ 126) && restIn s (i + 1)) := by
  unfold restIn allIn
  rw [List.drop_eq_getElem_cons (by rw [dlen]; exact h), List.all_cons, bt_list s i h, List.getD_eq_getElem?_getD, List.getElem?_eq_getElem (by rw [dlen]; exact h)]
  simp only [Option.getD_some]
  congr 1
  apply decide_eq_decide.mpr
  omega
def nameOk (s : ByteArray) : Bool := allIn s.data.toList && decide (1 ≤ s.size ∧ s.size ≤ 32)
theorem kindOf_nil : kindOf [] = 0 := by decide +kernel
theorem kindOf_le (l : List UInt8) : kindOf l ≤ 4 := by
  unfold kindOf kindNames kindFrom kindFrom kindFrom kindFrom kindFrom
  repeat' split
  all_goals omega
theorem kindAns_ref (s : ByteArray) : kindAns s.data.toList = if (if nameOk s = true then (kindOf s.data.toList : Int) else 0) = 0 then (0, 3) else ((if nameOk s = true then (kindOf s.data.toList : Int) else 0), 0) := by
  unfold kindAns nameOk
  rw [dlen]
  by_cases ha : allIn s.data.toList = true
  · by_cases hk : kindOf s.data.toList = 0
    · simp [hk]
    · have h1 : 1 ≤ s.size := by
        rcases Nat.eq_zero_or_pos s.size with h | h
        · exact absurd (by rw [List.eq_nil_of_length_eq_zero (show s.data.toList.length = 0 by rw [dlen]; exact h)]; exact kindOf_nil) hk
        · exact h
      have hk' : ¬ ((kindOf s.data.toList : Int) = 0) := by omega
      by_cases h32 : s.size ≤ 32 <;> simp [ha, hk, h1, h32, hk']
  · simp [ha]
theorem kind_eq (s : ByteArray) (hs : s.size ≤ 9223372036854775807) : sect_Kind.f s = some (kindAns s.data.toList) := by
  unfold sect_Kind.f
  rw [if_pos hs]
def alignOk (n : Int) : Bool := decide (n = 1) || decide (n = 2) || decide (n = 4) || decide (n = 8) || decide (n = 16) || decide (n = 32) || decide (n = 64)
theorem alignOk_iff (n : Int) : alignOk n = true ↔ n = 1 ∨ n = 2 ∨ n = 4 ∨ n = 8 ∨ n = 16 ∨ n = 32 ∨ n = 64 := by
  unfold alignOk
  simp only [Bool.or_eq_true, decide_eq_true_eq]
  omega
def sizesOk (kd : Int) (len : Nat) (size : Int) : Bool := if kd = 4 then decide (len = 0 ∧ 0 ≤ size ∧ size ≤ 4096) else decide (size = 0 ∧ len ≤ 4096)
theorem sizesOk_bss {kd : Int} (h : kd = 4) (len : Nat) (size : Int) : sizesOk kd len size = decide (len = 0 ∧ 0 ≤ size ∧ size ≤ 4096) := if_pos h
theorem sizesOk_not {kd : Int} (h : ¬ kd = 4) (len : Nat) (size : Int) : sizesOk kd len size = decide (size = 0 ∧ len ≤ 4096) := if_neg h
/-- What both answer of a section. -/
def sectAns (name : ByteArray) (align : Int) (data : List Int) (size : Int) : Int :=
  if (kindAns name.data.toList).2 = 0 ∧ alignOk align = true ∧ sizesOk (kindAns name.data.toList).1 data.length size = true then 0 else 8
theorem sectAns_two (name : ByteArray) (align : Int) (data : List Int) (size : Int) : sectAns name align data size = 0 ∨ sectAns name align data size = 8 := by
  unfold sectAns
  split
  · exact .inl rfl
  · exact .inr rfl
end Go.Proofs.Ytdhkmaiidbomdac.Z
