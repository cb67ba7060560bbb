/- What package apply puts: bit by bit; for any bytes, type and number, with enough rounds. -/
import Derived.Test.YtoljgjnbkejhaaaZPart
import Derived.Test.YtoljgjnbkejhaaaPx2
import Derived.Test.YtoljgjnbkejhaaaPx3
import Derived.Test.YtoljgjnbkejhaaaPx1
namespace Go.Proofs.Ytoljgjnbkejhaaa.Z
open Go.RowKit Go.Proofs.Ytoljgjnbkejhaaa.P Go.Proofs.YtoljgjnbkejhaaaW.PrintWords Go.Proofs.YtoljgjnbkejhaaaW.PrintLast Go.Proofs.YtoljgjnbkejhaaaW.PrintMore
set_option linter.unusedSimpArgs false
set_option linter.unusedVariables false
def rowOk (r : S48) : Bool := decide (0 ≤ r.f0 ∧ r.f0 < 64 ∧ 0 ≤ r.f1 ∧ r.f1 < 64 ∧ 0 ≤ r.f2 ∧ r.f2 < 64 ∧ r.f1 + r.f2 ≤ 64)
/-- From which bit of the value a bit of the word comes, if it does. -/
def src : List S48 → Nat → Option Nat
  | [], _ => none
  | r :: rs, i => match src rs i with
    | some j => some j
    | none => if r.f1.toNat ≤ i ∧ i < r.f1.toNat + r.f2.toNat then some (i - r.f1.toNat + r.f0.toNat) else none
def pick (s : Option Nat) (P : Nat) (b : Bool) : Bool := match s with
  | some j => P.testBit j
  | none => b
theorem pick_cons (r : S48) (rs : List S48) (P : Nat) (i : Nat) (b : Bool) :
    pick (src (r :: rs) i) P b = pick (src rs i) P (if r.f1.toNat ≤ i ∧ i < r.f1.toNat + r.f2.toNat then P.testBit (i - r.f1.toNat + r.f0.toNat) else b) := by
  have e : src (r :: rs) i = match src rs i with
    | some j => some j
    | none => if r.f1.toNat ≤ i ∧ i < r.f1.toNat + r.f2.toNat then some (i - r.f1.toNat + r.f0.toNat) else none := rfl
  rw [e]
  cases src rs i with
  | some j => rfl
  | none =>
    by_cases h : r.f1.toNat ≤ i ∧ i < r.f1.toNat + r.f2.toNat
    · simp only [if_pos h]
      rfl
    · simp only [if_neg h]
def rowsAns (kd : Int) : List S48 := (apply_rows.f 5 kd).getD []
theorem rows_all : ∀ n : Fin 256, (apply_rows.f 5 (n.val : Int)).isSome = true := by decide +kernel
theorem rows_eq {kd : Int} (h : 0 ≤ kd ∧ kd ≤ 255) {k : Nat} (hk : 5 ≤ k) : apply_rows.f k kd = some (rowsAns kd) := by
  refine mono_some (g := fun k => apply_rows.f k kd) (fun k => apply_rows.mono kd k) (a := 5) ?_ hk
  obtain ⟨v, hv⟩ := Option.isSome_iff_exists.1 (u8_all (P := fun x => (apply_rows.f 5 x).isSome = true) rows_all h)
  show apply_rows.f 5 kd = some (rowsAns kd)
  rw [rowsAns, hv]
  rfl
theorem rows_ok {kd : Int} (h : 0 ≤ kd ∧ kd ≤ 255) : (rowsAns kd).all rowOk = true ∧ (rowsAns kd).length ≤ 8 :=
  u8_all (P := fun x => (rowsAns x).all rowOk = true ∧ (rowsAns x).length ≤ 8) (by decide +kernel) h
theorem rd48 (l : List S48) (i : Nat) (h : i < l.length) : rd_T48 l (i : Int) = l[i] := by
  unfold rd_T48
  rw [Int.toNat_natCast, List.getD_eq_getElem?_getD, List.getElem?_eq_getElem h]
  rfl
theorem u64_nat (n : Int) : IntKind.u64.wrap n = (((u64 n).toNat : Nat) : Int) ∧ (u64 n).toNat < 18446744073709551616 := by
  have := u64_range n
  rw [wrapu64]
  exact ⟨by omega, by omega⟩
/-- The word before bits are moved into it. -/
def startW (kd p : Int) (T : Nat) : Nat := if kd = 1 ∨ kd = 2 then (u64 p).toNat else if 33 ≤ kd ∧ kd ≤ 36 then (u64 (T + u64 p)).toNat else if 37 ≤ kd ∧ kd ≤ 40 then (u64 (T - u64 p)).toNat else T
def numN (l : List Int) : Nat := (numI l).toNat
theorem numN_lt {l : List Int} (hl : AllB l) (h8 : l.length ≤ 8) : numN l < 18446744073709551616 ∧ ((numN l : Nat) : Int) = numI l := by
  have h := numI_range l hl
  have hp : (2 : Int) ^ (8 * l.length) ≤ 18446744073709551616 := by
    have : (2 : Int) ^ (8 * l.length) ≤ 2 ^ 64 := by exact_mod_cast Nat.pow_le_pow_right (show 0 < 2 by decide) (show 8 * l.length ≤ 64 by omega)
    simpa using this
  unfold numN
  omega
theorem get_num {l : List Int} (hl : AllB l) (s : Int) (h : (l.length : Int) = s) (hs : sizeOk s = true) : IntKind.u64.wrap (getAns l 0 s).1 = ((numN l : Nat) : Int) := by
  have h4 := (sizeOk_iff s).1 hs
  have hn := numN_lt hl (by omega)
  unfold getAns
  rw [if_pos hs, if_pos (by omega)]
  dsimp only
  have e : (l.drop (0 : Int).toNat).take s.toNat = l := by
    rw [show (0 : Int).toNat = 0 from rfl, List.drop_zero, List.take_of_length_le (by omega)]
  rw [e, wrapu64, u64_wrap64 (by omega) (by omega), hn.2]

namespace Once
theorem rows_loop (rs : List S48) (size p : Int) (hs : 0 ≤ size ∧ size ≤ 8) (hok : rs.all rowOk = true) (hlen : rs.length ≤ 100) (d : Nat) : ∀ (k i w : Nat), i + d = rs.length → d + 20 < k → w < 18446744073709551616 →
    ∃ c : Nat, apply_Fix0.l0 k size p (w : Int) rs (rs.length : Int) (i : Int) = some (bytesI (c : Int) size.toNat, 0) ∧ c < 18446744073709551616 ∧ ∀ j, c.testBit j = pick (src (rs.drop i) j) (u64 p).toNat (w.testBit j) := by
  induction d with
  | zero =>
    intro k i w hi hk hw
    obtain ⟨k, rfl⟩ : ∃ m, k = m + 1 := ⟨k - 1, by omega⟩
    simp only [apply_Fix0.l0]
    rw [if_neg (by omega), put_eq _ _ k (by omega), putAns_yes ((putOk_iff _ 8).2 ⟨by decide, .inl rfl⟩), u64_wrap64 (by omega) (by omega)]
    simp only [Option.bind_some, bytesI_length, show Int.toNat 8 = 8 from rfl]
    rw [if_pos hs.1, if_pos (by omega), bytesI_take _ _ _ (by omega)]
    refine ⟨w, rfl, hw, fun j => ?_⟩
    rw [List.drop_eq_nil_of_le (by omega)]
    rfl
  | succ d ih =>
    intro k i w hi hk hw
    obtain ⟨k, rfl⟩ : ∃ m, k = m + 1 := ⟨k - 1, by omega⟩
    have hil : i < rs.length := by omega
    have hr : rowOk (rd_T48 rs (i : Int)) = true := by rw [rd48 rs i hil]; exact List.all_eq_true.1 hok _ (List.getElem_mem hil)
    have hr2 := decide_eq_true_iff.1 hr
    simp only [apply_Fix0.l0]
    rw [if_pos (by omega), if_pos (by omega), if_pos (by omega), if_pos hr2.2.2.2.2.1, if_pos hr2.2.2.1, if_pos hr2.1, wrap64_id (n := (i : Int) + 1) (by omega) (by omega)]
    obtain ⟨f, hf⟩ : ∃ f : Nat, (rd_T48 rs (i : Int)).f0 = (f : Int) := ⟨_, (Int.toNat_of_nonneg hr2.1).symm⟩
    obtain ⟨t, ht⟩ : ∃ t : Nat, (rd_T48 rs (i : Int)).f1 = (t : Int) := ⟨_, (Int.toNat_of_nonneg hr2.2.2.1).symm⟩
    obtain ⟨m, hm⟩ : ∃ m : Nat, (rd_T48 rs (i : Int)).f2 = (m : Int) := ⟨_, (Int.toNat_of_nonneg hr2.2.2.2.2.1).symm⟩
    have hP := u64_nat p
    rw [hf, ht, hm, hP.1]
    rw [hf, ht, hm] at hr2
    obtain ⟨c, h1, h2, h3⟩ := stepN w (u64 p).toNat f t m hw hP.2 (by omega) (by omega) (by omega) (by omega)
    rw [h1]
    obtain ⟨c2, g1, g2, g3⟩ := ih k (i + 1) c (by omega) (by omega) h2
    refine ⟨c2, ?_, g2, fun j => ?_⟩
    · rw [← g1]
      norm_cast
    · rw [g3, List.drop_eq_getElem_cons hil, pick_cons, h3, ← rd48 rs i hil, hf, ht, hm]
      simp only [Int.toNat_natCast]
theorem fix_j3 {kd : Int} (hkd : 0 ≤ kd ∧ kd ≤ 255) (size p : Int) (hs : 0 ≤ size ∧ size ≤ 8) (w : Nat) (hw : w < 18446744073709551616) (k : Nat) (hk : 40 ≤ k) :
    ∃ c : Nat, apply_Fix0.j3 k kd size p (w : Int) = some (bytesI (c : Int) size.toNat, 0) ∧ c < 18446744073709551616 ∧ ∀ j, c.testBit j = pick (src (rowsAns kd) j) (u64 p).toNat (w.testBit j) := by
  obtain ⟨k, rfl⟩ : ∃ m, k = m + 1 := ⟨k - 1, by omega⟩
  have ho := rows_ok hkd
  simp only [apply_Fix0.j3, rows_eq hkd (show 5 ≤ k by omega), Option.bind_some]
  have := rows_loop (rowsAns kd) size p hs ho.1 (by omega) (rowsAns kd).length k 0 w (by omega) (by omega) hw
  rw [List.drop_zero] at this
  exact this
theorem fix_j1 {kd : Int} (hkd : 0 ≤ kd ∧ kd ≤ 255) (size p : Int) (hs : 0 ≤ size ∧ size ≤ 8) (w : Nat) (hw : w < 18446744073709551616) (b : Bool) (hb : b = decide (kd = 1 ∨ kd = 2)) (k : Nat) (hk : 50 ≤ k) :
    ∃ c : Nat, apply_Fix0.j1 k kd size p (w : Int) b = some (bytesI (c : Int) size.toNat, 0) ∧ c < 18446744073709551616 ∧ ∀ j, c.testBit j = pick (src (rowsAns kd) j) (u64 p).toNat ((startW kd p w).testBit j) := by
  obtain ⟨k, rfl⟩ : ∃ m, k = m + 2 := ⟨k - 2, by omega⟩
  subst hb
  have J := fun w hw => fix_j3 hkd size p hs w hw
  have hP := u64_nat p
  have hA := u64_nat ((w : Int) + u64 p)
  have hS := u64_nat ((w : Int) - u64 p)
  simp only [apply_Fix0.j1, startW]
  by_cases c : kd = 1 ∨ kd = 2
  · rw [decide_eq_true c, if_pos rfl, if_pos c, hP.1]
    exact J _ hP.2 _ (by omega)
  · rw [decide_eq_false c, if_neg (by simp), if_neg c]
    by_cases c1 : kd ≥ 33
    · rw [if_pos c1]
      simp only [apply_Fix0.j2]
      by_cases c2 : kd ≤ 36
      · rw [decide_eq_true c2, if_pos rfl, if_pos ⟨c1, c2⟩, wrapu64 p, hA.1]
        exact J _ hA.2 _ (by omega)
      · rw [decide_eq_false c2, if_neg (by simp), if_neg (show ¬ (33 ≤ kd ∧ kd ≤ 36) from fun h => c2 h.2)]
        by_cases c3 : kd ≥ 37
        · rw [if_pos c3]
          by_cases c4 : kd ≤ 40
          · rw [if_pos c4, if_pos ⟨c3, c4⟩, wrapu64 p, hS.1]
            exact J _ hS.2 _ (by omega)
          · rw [if_neg c4, if_neg (show ¬ (37 ≤ kd ∧ kd ≤ 40) from fun h => c4 h.2)]
            exact J _ hw _ (by omega)
        · rw [if_neg c3, if_neg (show ¬ (37 ≤ kd ∧ kd ≤ 40) from fun h => c3 h.1)]
          exact J _ hw _ (by omega)
    · rw [if_neg c1]
      simp only [apply_Fix0.j2]
      rw [if_neg (by simp), if_neg (show ¬ kd ≥ 37 by omega), if_neg (show ¬ (33 ≤ kd ∧ kd ≤ 36) by omega), if_neg (show ¬ (37 ≤ kd ∧ kd ≤ 40) by omega)]
      exact J _ hw _ (by omega)
/-- What is put, of a type other than a call's, where nothing is wrong and there are bytes. -/
theorem fix_good {l : List Int} (hl : AllB l) {kd v : Int} (hkd : 0 ≤ kd ∧ kd ≤ 255) (hv : -9223372036854775808 ≤ v ∧ v ≤ 9223372036854775807) (h18 : kd ≠ 18) (hf : (fieldAns kd).2 = 0) (hlen : (l.length : Int) = (fieldAns kd).1) (h0 : l.length ≠ 0) (hp : (partAns kd v).2 = 0) (k : Nat) (hk : 60 ≤ k) :
    ∃ c : Nat, apply_Fix0.f k l kd v = some (bytesI (c : Int) l.length, 0) ∧ c < 18446744073709551616 ∧ ∀ j, c.testBit j = pick (src (rowsAns kd) j) (u64 (partAns kd v).1).toNat ((startW kd (partAns kd v).1 (numN l)).testBit j) := by
  have fv := field_vals hkd
  have hsz : (fieldAns kd).1 = 1 ∨ (fieldAns kd).1 = 2 ∨ (fieldAns kd).1 = 4 ∨ (fieldAns kd).1 = 8 := by omega
  have hso := (sizeOk_iff _).2 hsz
  have hn := numN_lt hl (by omega)
  obtain ⟨k, rfl⟩ : ∃ m, k = m + 1 := ⟨k - 1, by omega⟩
  unfold apply_Fix0.f
  rw [field_eq hkd (by omega), part_eq kd v hv _ (by omega)]
  simp only [Option.bind_some]
  rw [if_pos hf, if_pos hlen, if_neg h18, if_pos hp]
  have hz : ((fieldAns kd).1 == 0) = false := by rw [beq_eq_false_iff_ne]; omega
  rw [hz]
  simp only [apply_Fix0.j0]
  rw [if_neg (by simp), get_eq _ _ _ k (by omega) hl (by omega) (by omega)]
  simp only [Option.bind_some]
  rw [get_num hl _ hlen hso]
  have e : l.length = (fieldAns kd).1.toNat := by omega
  rw [e]
  have J := fun b hb => fix_j1 hkd (fieldAns kd).1 (partAns kd v).1 (by omega) (numN l) hn.1 b hb k (by omega)
  by_cases c : kd = 1
  · rw [if_pos c]
    exact J _ (by simp [c])
  · rw [if_neg c]
    exact J _ (by simp [c, beq_dec])
/-- What is answered where something is wrong, or there are no bytes. -/
theorem fix_bad {l : List Int} {kd v : Int} (hkd : 0 ≤ kd ∧ kd ≤ 255) (hv : -9223372036854775808 ≤ v ∧ v ≤ 9223372036854775807) (h18 : kd ≠ 18) (k : Nat) (hk : 60 ≤ k)
    (h : (fieldAns kd).2 ≠ 0 ∨ (l.length : Int) ≠ (fieldAns kd).1 ∨ (partAns kd v).2 ≠ 0 ∨ (fieldAns kd).1 = 0) :
    apply_Fix0.f k l kd v = some ([], if (fieldAns kd).2 ≠ 0 then (fieldAns kd).2 else if (l.length : Int) ≠ (fieldAns kd).1 then 3 else (partAns kd v).2) := by
  obtain ⟨k, rfl⟩ : ∃ m, k = m + 1 := ⟨k - 1, by omega⟩
  unfold apply_Fix0.f
  rw [field_eq hkd (by omega), part_eq kd v hv _ (by omega)]
  simp only [Option.bind_some]
  by_cases hf : (fieldAns kd).2 = 0
  · rw [if_pos hf, if_neg (show ¬ ((fieldAns kd).2 ≠ 0) from fun c => c hf)]
    by_cases hlen : (l.length : Int) = (fieldAns kd).1
    · rw [if_pos hlen, if_neg (show ¬ ((l.length : Int) ≠ (fieldAns kd).1) from fun c => c hlen), if_neg h18]
      by_cases hp : (partAns kd v).2 = 0
      · have hz : (fieldAns kd).1 = 0 := by
          rcases h with h | h | h | h
          · exact absurd hf h
          · exact absurd hlen h
          · exact absurd hp h
          · exact h
        rw [if_pos hp, hz]
        simp only [apply_Fix0.j0, beq_self_eq_true, if_true]
      · rw [if_neg hp]
        simp only [apply_Fix0.j0, if_true]
    · rw [if_neg hlen, if_pos hlen]
  · rw [if_neg hf, if_pos hf]
end Once

namespace Full
theorem rows_loop (rs : List S48) (size p : Int) (hs : 0 ≤ size ∧ size ≤ 8) (hok : rs.all rowOk = true) (hlen : rs.length ≤ 100) (d : Nat) : ∀ (k i w : Nat), i + d = rs.length → d + 20 < k → w < 18446744073709551616 →
    ∃ c : Nat, apply_Fix.l0 k size p (w : Int) rs (rs.length : Int) (i : Int) = some (bytesI (c : Int) size.toNat, 0) ∧ c < 18446744073709551616 ∧ ∀ j, c.testBit j = pick (src (rs.drop i) j) (u64 p).toNat (w.testBit j) := by
  induction d with
  | zero =>
    intro k i w hi hk hw
    obtain ⟨k, rfl⟩ : ∃ m, k = m + 1 := ⟨k - 1, by omega⟩
    simp only [apply_Fix.l0]
    rw [if_neg (by omega), put_eq _ _ k (by omega), putAns_yes ((putOk_iff _ 8).2 ⟨by decide, .inl rfl⟩), u64_wrap64 (by omega) (by omega)]
    simp only [Option.bind_some, bytesI_length, show Int.toNat 8 = 8 from rfl]
    rw [if_pos hs.1, if_pos (by omega), bytesI_take _ _ _ (by omega)]
    refine ⟨w, rfl, hw, fun j => ?_⟩
    rw [List.drop_eq_nil_of_le (by omega)]
    rfl
  | succ d ih =>
    intro k i w hi hk hw
    obtain ⟨k, rfl⟩ : ∃ m, k = m + 1 := ⟨k - 1, by omega⟩
    have hil : i < rs.length := by omega
    have hr : rowOk (rd_T48 rs (i : Int)) = true := by rw [rd48 rs i hil]; exact List.all_eq_true.1 hok _ (List.getElem_mem hil)
    have hr2 := decide_eq_true_iff.1 hr
    simp only [apply_Fix.l0]
    rw [if_pos (by omega), if_pos (by omega), if_pos (by omega), if_pos hr2.2.2.2.2.1, if_pos hr2.2.2.1, if_pos hr2.1, wrap64_id (n := (i : Int) + 1) (by omega) (by omega)]
    obtain ⟨f, hf⟩ : ∃ f : Nat, (rd_T48 rs (i : Int)).f0 = (f : Int) := ⟨_, (Int.toNat_of_nonneg hr2.1).symm⟩
    obtain ⟨t, ht⟩ : ∃ t : Nat, (rd_T48 rs (i : Int)).f1 = (t : Int) := ⟨_, (Int.toNat_of_nonneg hr2.2.2.1).symm⟩
    obtain ⟨m, hm⟩ : ∃ m : Nat, (rd_T48 rs (i : Int)).f2 = (m : Int) := ⟨_, (Int.toNat_of_nonneg hr2.2.2.2.2.1).symm⟩
    have hP := u64_nat p
    rw [hf, ht, hm, hP.1]
    rw [hf, ht, hm] at hr2
    obtain ⟨c, h1, h2, h3⟩ := stepN w (u64 p).toNat f t m hw hP.2 (by omega) (by omega) (by omega) (by omega)
    rw [h1]
    obtain ⟨c2, g1, g2, g3⟩ := ih k (i + 1) c (by omega) (by omega) h2
    refine ⟨c2, ?_, g2, fun j => ?_⟩
    · rw [← g1]
      norm_cast
    · rw [g3, List.drop_eq_getElem_cons hil, pick_cons, h3, ← rd48 rs i hil, hf, ht, hm]
      simp only [Int.toNat_natCast]
theorem fix_j3 {kd : Int} (hkd : 0 ≤ kd ∧ kd ≤ 255) (size p : Int) (hs : 0 ≤ size ∧ size ≤ 8) (w : Nat) (hw : w < 18446744073709551616) (k : Nat) (hk : 40 ≤ k) :
    ∃ c : Nat, apply_Fix.j3 k kd size p (w : Int) = some (bytesI (c : Int) size.toNat, 0) ∧ c < 18446744073709551616 ∧ ∀ j, c.testBit j = pick (src (rowsAns kd) j) (u64 p).toNat (w.testBit j) := by
  obtain ⟨k, rfl⟩ : ∃ m, k = m + 1 := ⟨k - 1, by omega⟩
  have ho := rows_ok hkd
  simp only [apply_Fix.j3, rows_eq hkd (show 5 ≤ k by omega), Option.bind_some]
  have := rows_loop (rowsAns kd) size p hs ho.1 (by omega) (rowsAns kd).length k 0 w (by omega) (by omega) hw
  rw [List.drop_zero] at this
  exact this
theorem fix_j1 {kd : Int} (hkd : 0 ≤ kd ∧ kd ≤ 255) (size p : Int) (hs : 0 ≤ size ∧ size ≤ 8) (w : Nat) (hw : w < 18446744073709551616) (b : Bool) (hb : b = decide (kd = 1 ∨ kd = 2)) (k : Nat) (hk : 50 ≤ k) :
    ∃ c : Nat, apply_Fix.j1 k kd size p (w : Int) b = some (bytesI (c : Int) size.toNat, 0) ∧ c < 18446744073709551616 ∧ ∀ j, c.testBit j = pick (src (rowsAns kd) j) (u64 p).toNat ((startW kd p w).testBit j) := by
  obtain ⟨k, rfl⟩ : ∃ m, k = m + 2 := ⟨k - 2, by omega⟩
  subst hb
  have J := fun w hw => fix_j3 hkd size p hs w hw
  have hP := u64_nat p
  have hA := u64_nat ((w : Int) + u64 p)
  have hS := u64_nat ((w : Int) - u64 p)
  simp only [apply_Fix.j1, startW]
  by_cases c : kd = 1 ∨ kd = 2
  · rw [decide_eq_true c, if_pos rfl, if_pos c, hP.1]
    exact J _ hP.2 _ (by omega)
  · rw [decide_eq_false c, if_neg (by simp), if_neg c]
    by_cases c1 : kd ≥ 33
    · rw [if_pos c1]
      simp only [apply_Fix.j2]
      by_cases c2 : kd ≤ 36
      · rw [decide_eq_true c2, if_pos rfl, if_pos ⟨c1, c2⟩, wrapu64 p, hA.1]
        exact J _ hA.2 _ (by omega)
      · rw [decide_eq_false c2, if_neg (by simp), if_neg (show ¬ (33 ≤ kd ∧ kd ≤ 36) from fun h => c2 h.2)]
        by_cases c3 : kd ≥ 37
        · rw [if_pos c3]
          by_cases c4 : kd ≤ 40
          · rw [if_pos c4, if_pos ⟨c3, c4⟩, wrapu64 p, hS.1]
            exact J _ hS.2 _ (by omega)
          · rw [if_neg c4, if_neg (show ¬ (37 ≤ kd ∧ kd ≤ 40) from fun h => c4 h.2)]
            exact J _ hw _ (by omega)
        · rw [if_neg c3, if_neg (show ¬ (37 ≤ kd ∧ kd ≤ 40) from fun h => c3 h.1)]
          exact J _ hw _ (by omega)
    · rw [if_neg c1]
      simp only [apply_Fix.j2]
      rw [if_neg (by simp), if_neg (show ¬ kd ≥ 37 by omega), if_neg (show ¬ (33 ≤ kd ∧ kd ≤ 36) by omega), if_neg (show ¬ (37 ≤ kd ∧ kd ≤ 40) by omega)]
      exact J _ hw _ (by omega)
/-- What is put, of a type other than a call's, where nothing is wrong and there are bytes. -/
theorem fix_good {l : List Int} (hl : AllB l) {kd v : Int} (hkd : 0 ≤ kd ∧ kd ≤ 255) (hv : -9223372036854775808 ≤ v ∧ v ≤ 9223372036854775807) (h18 : kd ≠ 18) (hf : (fieldAns kd).2 = 0) (hlen : (l.length : Int) = (fieldAns kd).1) (h0 : l.length ≠ 0) (hp : (partAns kd v).2 = 0) (k : Nat) (hk : 60 ≤ k) :
    ∃ c : Nat, apply_Fix.f k l kd v = some (bytesI (c : Int) l.length, 0) ∧ c < 18446744073709551616 ∧ ∀ j, c.testBit j = pick (src (rowsAns kd) j) (u64 (partAns kd v).1).toNat ((startW kd (partAns kd v).1 (numN l)).testBit j) := by
  have fv := field_vals hkd
  have hsz : (fieldAns kd).1 = 1 ∨ (fieldAns kd).1 = 2 ∨ (fieldAns kd).1 = 4 ∨ (fieldAns kd).1 = 8 := by omega
  have hso := (sizeOk_iff _).2 hsz
  have hn := numN_lt hl (by omega)
  obtain ⟨k, rfl⟩ : ∃ m, k = m + 1 := ⟨k - 1, by omega⟩
  unfold apply_Fix.f
  rw [field_eq hkd (by omega), part_eq kd v hv _ (by omega)]
  simp only [Option.bind_some]
  rw [if_pos hf, if_pos hlen, if_neg h18, if_pos hp]
  have hz : ((fieldAns kd).1 == 0) = false := by rw [beq_eq_false_iff_ne]; omega
  rw [hz]
  simp only [apply_Fix.j0]
  rw [if_neg (by simp), get_eq _ _ _ k (by omega) hl (by omega) (by omega)]
  simp only [Option.bind_some]
  rw [get_num hl _ hlen hso]
  have e : l.length = (fieldAns kd).1.toNat := by omega
  rw [e]
  have J := fun b hb => fix_j1 hkd (fieldAns kd).1 (partAns kd v).1 (by omega) (numN l) hn.1 b hb k (by omega)
  by_cases c : kd = 1
  · rw [if_pos c]
    exact J _ (by simp [c])
  · rw [if_neg c]
    exact J _ (by simp [c, beq_dec])
/-- What is answered where something is wrong, or there are no bytes. -/
theorem fix_bad {l : List Int} {kd v : Int} (hkd : 0 ≤ kd ∧ kd ≤ 255) (hv : -9223372036854775808 ≤ v ∧ v ≤ 9223372036854775807) (h18 : kd ≠ 18) (k : Nat) (hk : 60 ≤ k)
    (h : (fieldAns kd).2 ≠ 0 ∨ (l.length : Int) ≠ (fieldAns kd).1 ∨ (partAns kd v).2 ≠ 0 ∨ (fieldAns kd).1 = 0) :
    apply_Fix.f k l kd v = some ([], if (fieldAns kd).2 ≠ 0 then (fieldAns kd).2 else if (l.length : Int) ≠ (fieldAns kd).1 then 3 else (partAns kd v).2) := by
  obtain ⟨k, rfl⟩ : ∃ m, k = m + 1 := ⟨k - 1, by omega⟩
  unfold apply_Fix.f
  rw [field_eq hkd (by omega), part_eq kd v hv _ (by omega)]
  simp only [Option.bind_some]
  by_cases hf : (fieldAns kd).2 = 0
  · rw [if_pos hf, if_neg (show ¬ ((fieldAns kd).2 ≠ 0) from fun c => c hf)]
    by_cases hlen : (l.length : Int) = (fieldAns kd).1
    · rw [if_pos hlen, if_neg (show ¬ ((l.length : Int) ≠ (fieldAns kd).1) from fun c => c hlen), if_neg h18]
      by_cases hp : (partAns kd v).2 = 0
      · have hz : (fieldAns kd).1 = 0 := by
          rcases h with h | h | h | h
          · exact absurd hf h
          · exact absurd hlen h
          · exact absurd hp h
          · exact h
        rw [if_pos hp, hz]
        simp only [apply_Fix.j0, beq_self_eq_true, if_true]
      · rw [if_neg hp]
        simp only [apply_Fix.j0, if_true]
    · rw [if_neg hlen, if_pos hlen]
  · rw [if_neg hf, if_pos hf]
end Full
end Go.Proofs.Ytoljgjnbkejhaaa.Z
