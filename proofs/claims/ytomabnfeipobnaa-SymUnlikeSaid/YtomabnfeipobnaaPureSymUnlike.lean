/- SymUnlike: two symbols, at two places, have the same bytes just where they are the same but for the name, and the places are; for any two symbols and places. -/
import Derived.Test.YtomabnfeipobnaaZSymAlive
import Derived.Test.YtomabnfeipobnaaPx33
namespace Go.Proofs.Ytomabnfeipobnaa.Pure
open Go.RowKit Go.Proofs.Ytomabnfeipobnaa.P Go.Proofs.YtomabnfeipobnaaW.PrintWords Go.Proofs.YtomabnfeipobnaaW.PrintLast Go.Proofs.Ytomabnfeipobnaa.Z
set_option linter.unusedSimpArgs false
set_option linter.unusedVariables false
theorem u64_inj {a b : Int} (ha : -9223372036854775808 ≤ a ∧ a ≤ 9223372036854775807) (hb : -9223372036854775808 ≤ b ∧ b ≤ 9223372036854775807) (h : bytesI (u64 a) 8 = bytesI (u64 b) 8) : a = b := by
  have := bytesI_eq_iff.1 h
  unfold u64 at this
  omega
theorem sym_inj {b1 b2 : Int} {h1 h2 : Bool} {w1 w2 v1 v2 s1 s2 p1 p2 : Int} (hb1 : 0 ≤ b1 ∧ b1 ≤ 2) (hb2 : 0 ≤ b2 ∧ b2 ≤ 2) (hw1 : -2 ≤ w1 ∧ w1 ≤ 16) (hw2 : -2 ≤ w2 ∧ w2 ≤ 16)
    (hv1 : -9223372036854775808 ≤ v1 ∧ v1 ≤ 9223372036854775807) (hv2 : -9223372036854775808 ≤ v2 ∧ v2 ≤ 9223372036854775807) (hs1 : -9223372036854775808 ≤ s1 ∧ s1 ≤ 9223372036854775807) (hs2 : -9223372036854775808 ≤ s2 ∧ s2 ≤ 9223372036854775807)
    (hp1 : 0 ≤ p1 ∧ p1 ≤ 65535) (hp2 : 0 ≤ p2 ∧ p2 ≤ 65535) (h : symBytes b1 h1 w1 v1 s1 p1 = symBytes b2 h2 w2 v2 s2 p2) : b1 = b2 ∧ h1 = h2 ∧ w1 = w2 ∧ v1 = v2 ∧ s1 = s2 ∧ p1 = p2 := by
  unfold symBytes at h
  have e1 := List.append_inj' h (by simp [bytesI_length])
  have e2 := List.append_inj' e1.1 (by simp [bytesI_length])
  have e3 := List.append_inj' e2.1 (by simp [bytesI_length])
  have e4 := List.append_inj' e3.2 (by simp [bytesI_length])
  have ep := bytesI_eq_iff.1 e3.1
  have ew := bytesI_eq_iff.1 e4.2
  have eb := e4.1
  simp only [List.cons.injEq, and_true] at eb
  refine ⟨by omega, ?_, ?_, u64_inj hv1 hv2 e2.2, u64_inj hs1 hs2 e1.2, ?_⟩
  · cases h1 <;> cases h2 <;> simp at eb ⊢
  · unfold whr16 at ew
    by_cases c1 : w1 < 0
    · rw [if_pos c1] at ew
      by_cases c2 : w2 < 0
      · rw [if_pos c2] at ew; omega
      · rw [if_neg c2] at ew; omega
    · rw [if_neg c1] at ew
      by_cases c2 : w2 < 0
      · rw [if_pos c2] at ew; omega
      · rw [if_neg c2] at ew; omega
  · unfold u64 at ep
    omega
theorem write_parts {name : ByteArray} {bind : Int} {hid : Bool} {whr val size place : Int} (h : (symWriteAns name bind hid whr val size place).2 = 0) :
    symAns name bind hid whr val size 16 = 0 ∧ (0 ≤ place ∧ place ≤ 65535) ∧ symWriteAns name bind hid whr val size place = (symBytes bind hid whr val size place, 0) := by
  unfold symWriteAns at h ⊢
  by_cases c : symAns name bind hid whr val size 16 = 0
  · rw [if_pos c] at h ⊢
    by_cases c2 : 0 ≤ place ∧ place ≤ 65535
    · rw [if_pos c2]; exact ⟨c, c2, rfl⟩
    · rw [if_neg c2] at h; exact absurd h (by decide)
  · rw [if_neg c] at h; exact absurd h c
theorem write_no {name : ByteArray} {bind : Int} {hid : Bool} {whr val size place : Int} (h : ¬ (symWriteAns name bind hid whr val size place).2 = 0) :
    (symWriteAns name bind hid whr val size place).1 = [] := by
  unfold symWriteAns at h ⊢
  by_cases c : symAns name bind hid whr val size 16 = 0
  · rw [if_pos c] at h ⊢
    by_cases c2 : 0 ≤ place ∧ place ≤ 65535
    · rw [if_pos c2] at h; exact absurd rfl h
    · rw [if_neg c2]
  · rw [if_neg c]
theorem unlike_j0 (k : Nat) (n1 : ByteArray) (b1 : Int) (h1 : Bool) (w1 v1 s1 p1 : Int) (n2 : ByteArray) (b2 : Int) (h2 : Bool) (w2 v2 s2 p2 : Int)
    (hb1 : 0 ≤ b1) (hb2 : 0 ≤ b2) (hv1 : -9223372036854775808 ≤ v1 ∧ v1 ≤ 9223372036854775807) (hv2 : -9223372036854775808 ≤ v2 ∧ v2 ≤ 9223372036854775807) (hs1 : -9223372036854775808 ≤ s1 ∧ s1 ≤ 9223372036854775807) (hs2 : -9223372036854775808 ≤ s2 ∧ s2 ≤ 9223372036854775807) :
    quoinlaw10_SymUnlike.j0 (k + 1) p1 p2 true (symWriteAns n1 b1 h1 w1 v1 s1 p1).1 (symWriteAns n1 b1 h1 w1 v1 s1 p1).2 (symWriteAns n2 b2 h2 w2 v2 s2 p2).1 (symWriteAns n2 b2 h2 w2 v2 s2 p2).2 false n1 b1 h1 w1 v1 s1 n2 b2 h2 w2 v2 s2 = some true := by
  simp only [quoinlaw10_SymUnlike.j0, Bool.false_eq_true, if_false, if_true]
  by_cases e1 : (symWriteAns n1 b1 h1 w1 v1 s1 p1).2 = 0
  · rw [if_pos e1]
    by_cases e2 : (symWriteAns n2 b2 h2 w2 v2 s2 p2).2 = 0
    · rw [if_pos e2]
      obtain ⟨a1, c1, d1⟩ := write_parts e1
      obtain ⟨a2, c2, d2⟩ := write_parts e2
      rw [d1, d2]
      have q1 := stands_parts (symAns_ok a1).2.2
      have q2 := stands_parts (symAns_ok a2).2.2
      rw [if_pos (by rw [symBytes_length]; rfl)]
      by_cases hs : symBytes b1 h1 w1 v1 s1 p1 = symBytes b2 h2 w2 v2 s2 p2
      · obtain ⟨rfl, rfl, rfl, rfl, rfl, rfl⟩ := sym_inj ⟨hb1, q1.1⟩ ⟨hb2, q2.1⟩ (by have := q1.2.2; omega) (by have := q2.2.2; omega) hv1 hv2 hs1 hs2 c1 c2 hs
        simp
      · have hsn : ¬ ((strOfNums (symBytes b1 h1 w1 v1 s1 p1)).toList = (strOfNums (symBytes b2 h2 w2 v2 s2 p2)).toList) := fun h => hs (str_inj (symBytes_allB _ _ _ _ _ _) (symBytes_allB _ _ _ _ _ _) h)
        simp only [if_neg hsn]
        by_cases he : (b1 == b2 && (h1 == h2 && (w1 == w2 && (v1 == v2 && s1 == s2)))) = true
        · rw [if_pos he]
          simp only [Bool.and_eq_true, beq_iff_eq] at he
          obtain ⟨rfl, rfl, rfl, rfl, rfl⟩ := he
          have : ¬ p1 = p2 := fun h => hs (by rw [h])
          simp [this]
        · rw [if_neg he]
    · rw [if_neg e2]
  · rw [if_neg e1]
theorem SymUnlike : quoinlaw10_SymUnlike.Pure := by
  intro n1 b1 h1 w1 v1 s1 p1 n2 b2 h2 w2 v2 s2 p2 hn1 hb1 hw1 hv1 hs1 hp1 hn2 hb2 hw2 hv2 hs2 hp2
  refine ⟨n1.size + n2.size + 50, ?_⟩
  have hn1 : n1.size ≤ 9223372036854775807 := hn1
  have hn2 : n2.size ≤ 9223372036854775807 := hn2
  unfold quoinlaw10_SymUnlike.f
  rw [alive_eq _ (by omega), symwrite_eq _ _ _ _ _ _ _ hn1 _ (by omega), symwrite_eq _ _ _ _ _ _ _ hn2 _ (by omega), symcheck_eq _ _ _ _ _ _ _ hn1 _ (by omega)]
  simp only [Option.bind_some]
  have J := unlike_j0 (n1.size + n2.size + 49) n1 b1 h1 w1 v1 s1 p1 n2 b2 h2 w2 v2 s2 p2 (wfu8 hb1).1 (wfu8 hb2).1 (wf64 hv1) (wf64 hv2) (wf64 hs1) (wf64 hs2)
  by_cases e1 : (symWriteAns n1 b1 h1 w1 v1 s1 p1).2 = 0
  · obtain ⟨a1, c1, d1⟩ := write_parts e1
    rw [if_pos a1, if_pos (by omega), if_pos e1, if_pos (by omega)]
    exact J
  · have hl : (((symWriteAns n1 b1 h1 w1 v1 s1 p1).1.length : Int) != 0) = false := by rw [write_no e1]; rfl
    simp only [if_neg e1, hl]
    by_cases a1 : symAns n1 b1 h1 w1 v1 s1 16 = 0
    · rw [if_pos a1]
      by_cases p0 : p1 ≥ 0
      · rw [if_pos p0]
        by_cases p2 : p1 < 65536
        · exfalso
          apply e1
          unfold symWriteAns
          rw [if_pos a1, if_pos (by omega)]
        · rw [if_neg p2]; exact J
      · rw [if_neg p0]; exact J
    · rw [if_neg a1]; exact J
end Go.Proofs.Ytomabnfeipobnaa.Pure
