/- ApplyKeeps: bits that are not put stay; for any two bytes of one length, type and number. -/
import Derived.Test.YtoljgjnbkejhaaaZApplyAlive
import Derived.Test.YtoljgjnbkejhaaaZSpec
import Derived.Test.YtoljgjnbkejhaaaPx12
import Derived.Test.YtoljgjnbkejhaaaPx5
namespace Go.Proofs.Ytoljgjnbkejhaaa.Pure
open Go.RowKit Go.Proofs.Ytoljgjnbkejhaaa.P Go.Proofs.YtoljgjnbkejhaaaW.PrintWords Go.Proofs.YtoljgjnbkejhaaaW.PrintLast Go.Proofs.Ytoljgjnbkejhaaa.Z
set_option linter.unusedSimpArgs false
set_option linter.unusedVariables false
theorem sums_keeps (kd : Int) : quoinlaw26_sums.f kd = some (decide (isSum kd)) := by
  unfold quoinlaw26_sums.f
  by_cases h : kd ≥ 33
  · rw [if_pos h]
    congr 1
    exact decide_eq_decide.mpr ⟨fun c => ⟨h, c⟩, fun c => c.2⟩
  · rw [if_neg h, decide_eq_false (fun c : isSum kd => h c.1)]
theorem ofInt8 (a : Nat) (ha : a < 256) : (BitVec.ofInt 8 (a : Int)).toNat = a := by
  rw [BitVec.ofInt_natCast, BitVec.toNat_ofNat]; exact Nat.mod_eq_of_lt (by omega)
theorem xor8 (a b : Nat) (ha : a < 256) (hb : b < 256) : ∃ c : Nat, bits .xor .u8 (a : Int) (b : Int) = (c : Int) ∧ c < 256 ∧ ∀ i, c.testBit i = (a.testBit i != b.testBit i) := by
  refine ⟨(BitVec.ofInt 8 (a : Int) ^^^ BitVec.ofInt 8 (b : Int)).toNat, ?_, BitVec.isLt _, fun i => ?_⟩
  · show IntKind.u8.wrap ((BitVec.ofInt 8 (a : Int) ^^^ BitVec.ofInt 8 (b : Int)).toNat : Int) = _
    have := BitVec.isLt (BitVec.ofInt 8 (a : Int) ^^^ BitVec.ofInt 8 (b : Int))
    rw [IntKind.wrap_u8]
    omega
  · rw [BitVec.toNat_xor, ofInt8 a ha, ofInt8 b hb, Nat.testBit_xor]
theorem andNot8_zero (a b : Nat) (ha : a < 256) (hb : b < 256) (h : ∀ i, a.testBit i = true → b.testBit i = true) : bits .andNot .u8 (a : Int) (b : Int) = 0 := by
  show IntKind.u8.wrap ((BitVec.ofInt 8 (a : Int) &&& ~~~ BitVec.ofInt 8 (b : Int)).toNat : Int) = 0
  have : BitVec.ofInt 8 (a : Int) &&& ~~~ BitVec.ofInt 8 (b : Int) = 0#8 := by
    apply BitVec.eq_of_getLsbD_eq
    intro i hi
    rw [BitVec.getLsbD_and, BitVec.getLsbD_not, ← BitVec.testBit_toNat, ← BitVec.testBit_toNat, ofInt8 a ha, ofInt8 b hb]
    by_cases hx : a.testBit i = true
    · simp [h i hx]
    · simp [hx]
  rw [this]
  rfl
/-- A byte's bits are those of the whole number. -/
theorem byte_bits {l : List Int} (hl : AllB l) (n : Nat) (hn : n < l.length) : ∃ c : Nat, rd l (n : Int) = (c : Int) ∧ c < 256 ∧ ∀ i, i < 8 → c.testBit i = bitL l (8 * n + i) := by
  have hr : rd l (n : Int) = l[n] := by
    unfold rd
    rw [Int.toNat_natCast, List.getD_eq_getElem?_getD, List.getElem?_eq_getElem hn]
    rfl
  have hb := hl l[n] (List.getElem_mem hn)
  refine ⟨l[n].toNat, by rw [hr]; omega, by omega, fun i hi => ?_⟩
  have e : l = l.take n ++ (l[n] :: l.drop (n + 1)) := by rw [← List.drop_eq_getElem_cons hn, List.take_append_drop]
  have hc : AllB (l[n] :: l.drop (n + 1)) := by rw [← List.drop_eq_getElem_cons hn]; exact allB_drop hl n
  have h1 := bitL_append (allB_take hl n) hc (8 * n + i)
  have hlen : (l.take n).length = n := by simp; omega
  rw [← e, hlen, if_neg (by omega), show 8 * n + i - 8 * n = i by omega] at h1
  rw [h1]
  have h2 := bitL_append (a := [l[n]]) (b := l.drop (n + 1)) (fun x hx => by rw [List.mem_singleton] at hx; rw [hx]; exact hb) (allB_drop hl (n + 1)) i
  rw [show [l[n]] ++ l.drop (n + 1) = l[n] :: l.drop (n + 1) from rfl, if_pos (by simp; omega)] at h2
  rw [h2]
  unfold bitL numN
  rw [show numI [l[n]] = l[n] by simp [numI]]
theorem keeps_loop {a b x y : List Int} (ha : AllB a) (hb : AllB b) (hx : AllB x) (hy : AllB y) (l1 : a.length = b.length) (l2 : x.length = a.length) (l3 : y.length = a.length) (hlen : a.length ≤ 1000)
    (h : ∀ i, i < 8 * a.length → bitL x i ≠ bitL y i → bitL a i ≠ bitL b i) (d : Nat) : ∀ (k i : Nat), i + d = a.length → 2 * d + 2 < k → quoinlaw26_ApplyKeeps.l0 k a b true x y (i : Int) = some true := by
  induction d with
  | zero =>
    intro k i hi hk
    obtain ⟨k, rfl⟩ : ∃ m, k = m + 2 := ⟨k - 2, by omega⟩
    simp only [quoinlaw26_ApplyKeeps.l0, quoinlaw26_ApplyKeeps.j3]
    rw [if_neg (by omega), if_neg (by simp), if_pos trivial, l2, l3]
    simp
  | succ d ih =>
    intro k i hi hk
    obtain ⟨k, rfl⟩ : ∃ m, k = m + 2 := ⟨k - 2, by omega⟩
    simp only [quoinlaw26_ApplyKeeps.l0, quoinlaw26_ApplyKeeps.j3]
    obtain ⟨ca, a1, a2, a3⟩ := byte_bits ha i (by omega)
    obtain ⟨cb, b1, b2, b3⟩ := byte_bits hb i (by omega)
    obtain ⟨cx, x1, x2, x3⟩ := byte_bits hx i (by omega)
    obtain ⟨cy, y1, y2, y3⟩ := byte_bits hy i (by omega)
    obtain ⟨p, p1, p2, p3⟩ := xor8 cx cy x2 y2
    obtain ⟨q, q1, q2, q3⟩ := xor8 ca cb a2 b2
    have hz : bits .andNot .u8 (p : Int) (q : Int) = 0 := by
      refine andNot8_zero p q p2 q2 (fun j hj => ?_)
      by_cases h8 : j < 8
      · rw [p3, x3 j h8, y3 j h8, bne_iff_ne] at hj
        rw [q3, a3 j h8, b3 j h8, bne_iff_ne]
        exact h _ (by omega) hj
      · have : p.testBit j = false := Nat.testBit_lt_two_pow (Nat.lt_of_lt_of_le p2 (by
          have : (2 : Nat) ^ 8 ≤ 2 ^ j := Nat.pow_le_pow_right (by decide) (by omega)
          simpa using this))
        rw [this] at hj
        cases hj
    rw [if_pos (by omega), decide_eq_true (by omega), if_pos rfl, if_pos (by omega), if_pos (by omega), if_pos (by omega), if_pos (by omega), if_pos (by omega), x1, y1, a1, b1, p1, q1, if_pos hz, wrap64_id (by omega) (by omega)]
    exact ih k (i + 1) (by omega) (by omega)
theorem pick_ne {s : Option Nat} {P : Nat} {a b : Bool} (h : pick s P a ≠ pick s P b) : a ≠ b := by
  intro e
  exact h (by rw [e])
theorem fixBit_ne {kd v : Int} {a b : Nat → Bool} {i : Nat} (h : fixBit kd v a i ≠ fixBit kd v b i) : a i ≠ b i := by
  intro e
  apply h
  unfold fixBit
  rw [e]
theorem keeps_j0 {a b : List Int} (ha : AllB a) (hb : AllB b) {kd v : Int} (hkd : 0 ≤ kd ∧ kd ≤ 255) (hv : -9223372036854775808 ≤ v ∧ v ≤ 9223372036854775807) (x : Bool) (hx : x = true ∨ a.length = b.length ∧ a.length ≤ 1000) (k : Nat) (hk : 3000 ≤ k) :
    quoinlaw26_ApplyKeeps.j0 k a b kd v true x = some true := by
  obtain ⟨k, rfl⟩ : ∃ m, k = m + 2 := ⟨k - 2, by omega⟩
  simp only [quoinlaw26_ApplyKeeps.j0]
  cases x
  · have hlen := hx.resolve_left (by simp)
    obtain ⟨o1, g1, F1⟩ := fix_eq ha hkd hv (k + 1) (by omega)
    obtain ⟨o2, g2, F2⟩ := fix_eq hb hkd hv (k + 1) (by omega)
    rw [← hlen.1] at g2
    rw [if_neg (by simp), g1, g2, sums_keeps]
    simp only [Option.bind_some, quoinlaw26_ApplyKeeps.j1]
    by_cases h : fixErr kd v a.length = 0
    · have h2 : fixErr kd v b.length = 0 := by rw [← hlen.1]; exact h
      rw [if_pos h, if_pos h]
      by_cases hs : isSum kd
      · rw [decide_eq_true hs, if_pos rfl, if_pos trivial]
        simp
      · rw [decide_eq_false hs, if_neg (by simp)]
        refine keeps_loop ha hb F1.bytes F2.bytes hlen.1 (F1.len h) (by rw [F2.len h2, hlen.1]) hlen.2 (fun i hi hne => ?_) a.length k 0 (by omega) (by omega)
        rw [F1.bits_ h hs i hi, F2.bits_ h2 hs i (by omega)] at hne
        exact fixBit_ne hne
    · rw [if_neg h, if_pos trivial, if_pos trivial]
      simp
  · rw [if_pos rfl]
theorem ApplyKeeps : quoinlaw26_ApplyKeeps.Pure := by
  intro a b kd v _ _ ha _ _ hb hkd hv
  refine ⟨4000, ?_⟩
  have J := keeps_j0 (allB_of_wf ha) (allB_of_wf hb) (wfu8 hkd) (wf64 hv)
  unfold quoinlaw26_ApplyKeeps.f
  rw [alive26_eq (by omega)]
  simp only [Option.bind_some]
  split
  · exact J _ (.inl rfl) _ (by omega)
  · rename_i h1
    refine J _ ?_ _ (by omega)
    by_cases h : a.length = b.length
    · exact .inr ⟨h, by omega⟩
    · left
      rw [bne_iff_ne]
      omega
end Go.Proofs.Ytoljgjnbkejhaaa.Pure
