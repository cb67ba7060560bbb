/- What the printed functions of package le come to: a number's bytes and the number at a place; for any number, size, place, and bytes that are from 0 to 255, with enough rounds. -/
import Derived.Test.YtdhkmaiidbomdafZBytes
import Derived.Test.YtdhkmaiidbomdafPx2
import Derived.Test.YtdhkmaiidbomdafPx3
namespace Go.Proofs.Ytdhkmaiidbomdaf.Z
open Go.RowKit Go.Proofs.Ytdhkmaiidbomdaf.P Go.Proofs.YtdhkmaiidbomdafW.PrintWords Go.Proofs.YtdhkmaiidbomdafW.PrintLast Go.Proofs.YtdhkmaiidbomdafW.PrintMore

theorem wrap64_id {n : Int} (h0 : -9223372036854775808 ≤ n) (h1 : n ≤ 9223372036854775807) : wrap64 n = n := by unfold wrap64; omega
/-- A number modulo 2^64. -/
def u64 (n : Int) : Int := n % 18446744073709551616
theorem wrapu64 (n : Int) : IntKind.u64.wrap n = u64 n := by simp [IntKind.wrap, IntKind.bits, IntKind.signed, u64]
theorem u64_range (n : Int) : 0 ≤ u64 n ∧ u64 n < 18446744073709551616 := by unfold u64; omega
theorem u64_id {n : Int} (h0 : 0 ≤ n) (h1 : n < 18446744073709551616) : u64 n = n := by unfold u64; omega
theorem wrap64_u64 {n : Int} (h0 : -9223372036854775808 ≤ n) (h1 : n ≤ 9223372036854775807) : wrap64 (u64 n) = n := by unfold wrap64 u64; omega
theorem u64_wrap64 {n : Int} (h0 : 0 ≤ n) (h1 : n < 18446744073709551616) : u64 (wrap64 n) = n := by unfold wrap64 u64; omega

/-- May a number have so many bytes? -/
def sizeOk (s : Int) : Bool := decide (s = 1) || decide (s = 2) || decide (s = 4) || decide (s = 8)
/-- Is a number one of so many bytes? -/
def putOk (n s : Int) : Bool := sizeOk s && (decide (s = 8) || decide (0 ≤ n ∧ n < 2 ^ (8 * s.toNat)))
/-- A number's bytes, and no error; or the error. -/
def putAns (n s : Int) : List Int × Int := if putOk n s = true then (bytesI (u64 n) s.toNat, 0) else ([], 2)
/-- The number at a place, and no error; or the error. -/
def getAns (l : List Int) (at_ s : Int) : Int × Int :=
  if sizeOk s = true then if 0 ≤ at_ ∧ at_ + s ≤ l.length then (wrap64 (numI ((l.drop at_.toNat).take s.toNat)), 0) else (0, 8) else (0, 2)

theorem sizeOk_iff (s : Int) : sizeOk s = true ↔ s = 1 ∨ s = 2 ∨ s = 4 ∨ s = 8 := by
  simp [sizeOk, or_assoc]
theorem sizes_eq (s : Int) : le_sizes.f s = some (sizeOk s) := by
  unfold le_sizes.f sizeOk
  by_cases h1 : s = 1
  · simp [h1]
  · by_cases h2 : s = 2
    · simp [h2]
    · by_cases h4 : s = 4
      · simp [h4]
      · by_cases h8 : s = 8
        · simp [h8]
        · simp [h1, h2, h4, h8]
theorem shr_byte (u : Int) (i : Nat) (hi : i ≤ 8) : shr .u64 u (8 * (i : Int)) % 256 = byteAt u i := by
  unfold shr byteAt
  have : min (8 * (i : Int)).toNat IntKind.u64.bits = 8 * i := by
    simp only [IntKind.bits]
    omega
  rw [this]
theorem put_loop (n : Int) (d : Nat) : ∀ (k : Nat) (y : List Int) (i : Nat), i + d = y.length → y.length ≤ 8 → d < k →
    le_Put.l0 k n y (y.length : Int) (i : Int) = some (y.take i ++ (List.range' i d).map (byteAt (u64 n)), 0) := by
  induction d with
  | zero =>
    intro k y i h0 h1 hk
    obtain ⟨k, rfl⟩ : ∃ m, k = m + 1 := ⟨k - 1, by omega⟩
    simp only [le_Put.l0]
    rw [if_neg (by omega)]
    simp [List.take_of_length_le (show y.length ≤ i by omega)]
  | succ d ih =>
    intro k y i h0 h1 hk
    obtain ⟨k, rfl⟩ : ∃ m, k = m + 1 := ⟨k - 1, by omega⟩
    simp only [le_Put.l0]
    rw [if_pos (by omega), wrap64_id (by omega) (by omega), if_pos (by omega), if_pos (by omega), if_pos (by omega), wrapu64, shr_byte _ _ (by omega), wrap64_id (by omega) (by omega)]
    have e := ih k (y.set ((i : Int).toNat) (byteAt (u64 n) i)) (i + 1) (by simp; omega) (by simpa using h1) (by omega)
    rw [List.length_set] at e
    rw [show ((i : Int) + 1) = ((i + 1 : Nat) : Int) by omega, e]
    have ht : (y.set ((i : Int).toNat) (byteAt (u64 n) i)).take (i + 1) = y.take i ++ [byteAt (u64 n) i] := by
      rw [Int.toNat_natCast, List.take_succ_eq_append_getElem (by simp; omega), List.take_set_of_le (Nat.le_refl i)]
      simp
    rw [ht, List.range'_succ, List.map_cons, List.append_assoc]
    rfl
theorem put_loop0 (n : Int) (s k : Nat) (hs : s ≤ 8) (hk : s < k) :
    le_Put.l0 k n (List.replicate s 0) ((List.replicate s (0 : Int)).length : Int) 0 = some (bytesI (u64 n) s, 0) := by
  have := put_loop n s k (List.replicate s 0) 0 (by simp) (by simpa using hs) hk
  rw [show ((0 : Nat) : Int) = 0 from rfl] at this
  rw [this]
  simp [bytesI, List.range_eq_range']
theorem put_no (n s : Int) (k : Nat) : le_Put.j0 (k + 1) n s true = some ([], 2) := by
  simp only [le_Put.j0, if_true]
theorem put_yes (n : Int) (s k : Nat) (hs : s ≤ 8) (hk : s < k) : le_Put.j0 (k + 1) n (s : Int) false = some (bytesI (u64 n) s, 0) := by
  simp only [le_Put.j0, Bool.false_eq_true, if_false]
  rw [if_pos (by omega), if_pos (by simp; omega), Int.toNat_natCast]
  simp only [Option.bind_some]
  exact put_loop0 n s k hs hk
theorem shr_ne (n : Int) (s : Nat) (h0 : 0 ≤ n) (hs : s ≤ 8) : (shr .i64 n (8 * (s : Int)) != 0) = decide (¬ n < 2 ^ (8 * s)) := by
  unfold shr
  have : min (8 * (s : Int)).toNat IntKind.i64.bits = 8 * s := by
    simp only [IntKind.bits]
    omega
  rw [this]
  have hp : (0 : Int) < 2 ^ (8 * s) := Int.pow_pos (by decide)
  by_cases h : n < 2 ^ (8 * s)
  · simp [h, Int.ediv_eq_zero_of_lt h0 h]
  · have : n / 2 ^ (8 * s) ≠ 0 := by
      have := Int.le_ediv_of_mul_le hp (a := 1) (b := n) (by omega)
      omega
    simp [h, this]
theorem put_eq (n s : Int) (k : Nat) (hk : 10 ≤ k) : le_Put.f k n s = some (putAns n s) := by
  obtain ⟨k, rfl⟩ : ∃ m, k = m + 1 := ⟨k - 1, by omega⟩
  unfold le_Put.f
  rw [sizes_eq]
  simp only [Option.bind_some]
  unfold putAns putOk
  by_cases hs : sizeOk s = true
  · rw [if_pos hs, hs]
    have h4 := (sizeOk_iff s).1 hs
    obtain ⟨t, rfl⟩ : ∃ t : Nat, s = t := ⟨s.toNat, by omega⟩
    have ht : t ≤ 8 := by omega
    by_cases h8 : (t : Int) < 8
    · rw [if_pos h8]
      have n8 : ¬ (t : Int) = 8 := by omega
      by_cases hn : n < 0
      · rw [if_pos hn, put_no, if_neg (by simp [n8]; omega)]
      · rw [if_neg hn, wrap64_id (by omega) (by omega), if_pos (by omega), shr_ne n t (by omega) ht]
        by_cases hlt : n < 2 ^ (8 * t)
        · rw [show decide (¬ n < 2 ^ (8 * t)) = false by simpa using hlt, put_yes n t k ht (by omega), if_pos (by simp [hlt]; omega)]
          simp
        · rw [show decide (¬ n < 2 ^ (8 * t)) = true by simpa using hlt, put_no, if_neg (by simp [n8]; omega)]
    · have e8 : t = 8 := by omega
      subst e8
      rw [if_neg h8, put_yes n 8 k (by omega) (by omega)]
      simp
  · rw [if_neg hs, put_no]
    simp [hs]

theorem bits_or_comm (k : IntKind) (x y : Int) : Go.bits .or k x y = Go.bits .or k y x := by
  simp only [Go.bits, BitVec.or_comm]
theorem wraps_u64 (n : Int) (h0 : 0 ≤ n) (h1 : n < 2 ^ 64) : IntKind.u64.wrap n = n := by
  rw [wrapu64]; exact u64_id h0 (by simpa using h1)
theorem or_shl (x b : Int) (i : Nat) (hi : i ≤ 7) (hx0 : 0 ≤ x) (hx : x < 2 ^ (8 * i)) (hb0 : 0 ≤ b) (hb : b < 256) :
    Go.bits .or .u64 x (shl .u64 (IntKind.u64.wrap b) (8 * (i : Int))) = x + 2 ^ (8 * i) * b := by
  have hm : min (8 * (i : Int)).toNat IntKind.u64.bits = 8 * i := by
    simp only [IntKind.bits]
    omega
  have hp : (0 : Int) < 2 ^ (8 * i) := Int.pow_pos (by decide)
  have hle : (2 : Int) ^ (8 * i) * 256 ≤ 2 ^ 64 := by
    rw [show (256 : Int) = 2 ^ 8 from rfl, ← Int.pow_add]
    exact_mod_cast Nat.pow_le_pow_right (show 0 < 2 by decide) (show 8 * i + 8 ≤ 64 by omega)
  have hb1 : b ≤ 255 := by omega
  have hub : b * 2 ^ (8 * i) ≤ 255 * 2 ^ (8 * i) := Int.mul_le_mul_of_nonneg_right hb1 (by omega)
  have hlb : 0 ≤ b * 2 ^ (8 * i) := Int.mul_nonneg hb0 (by omega)
  unfold shl
  rw [hm, wraps_u64 b hb0 (by omega), wraps_u64 _ hlb (by omega), bits_or_comm,
    bits_join .u64 64 (by decide) wraps_u64 (8 * i) _ x hlb (Int.mul_emod_left _ _) (by omega) hx0 hx (by omega), Int.mul_comm b]
  omega
theorem get_loop (l : List Int) (hl : AllB l) (h8 : l.length ≤ 8) (d : Nat) : ∀ (k i : Nat), i + d = l.length → d < k →
    le_Get.l0 k (numI (l.take i)) l (l.length : Int) (i : Int) = some (wrap64 (numI l), 0) := by
  induction d with
  | zero =>
    intro k i h0 hk
    obtain ⟨k, rfl⟩ : ∃ m, k = m + 1 := ⟨k - 1, by omega⟩
    simp only [le_Get.l0]
    rw [if_neg (by omega), List.take_of_length_le (by omega)]
  | succ d ih =>
    intro k i h0 hk
    obtain ⟨k, rfl⟩ : ∃ m, k = m + 1 := ⟨k - 1, by omega⟩
    simp only [le_Get.l0]
    rw [if_pos (by omega), if_pos (by omega), if_pos (by omega), wrap64_id (by omega) (by omega), if_pos (by omega), wrap64_id (by omega) (by omega)]
    have hi : i < l.length := by omega
    have hr : rd l (i : Int) = l[i] := by
      unfold rd
      rw [Int.toNat_natCast, List.getD_eq_getElem?_getD, List.getElem?_eq_getElem hi]
      rfl
    have hb := hl l[i] (List.getElem_mem hi)
    have hx := numI_range (l.take i) (allB_take hl i)
    rw [List.length_take, Nat.min_eq_left (by omega)] at hx
    rw [hr, or_shl _ _ i (by omega) hx.1 hx.2 hb.1 hb.2]
    have e : numI (l.take (i + 1)) = numI (l.take i) + 2 ^ (8 * i) * l[i] := by
      rw [List.take_succ_eq_append_getElem hi, numI_append, List.length_take, Nat.min_eq_left (by omega)]
      simp [numI]
    rw [← e, show ((i : Int) + 1) = ((i + 1 : Nat) : Int) by omega]
    exact ih k (i + 1) (by omega) (by omega)
theorem get_eq (l : List Int) (at_ s : Int) (k : Nat) (hk : 10 ≤ k) (hl : AllB l) (hlen : l.length ≤ 140737488351232)
    (ha : -9223372036854775808 ≤ at_ ∧ at_ ≤ 9223372036854775807) : le_Get.f k l at_ s = some (getAns l at_ s) := by
  obtain ⟨k, rfl⟩ : ∃ m, k = m + 1 := ⟨k - 1, by omega⟩
  unfold le_Get.f
  rw [sizes_eq]
  simp only [Option.bind_some]
  unfold getAns
  by_cases hs : sizeOk s = true
  · rw [if_pos hs, if_pos hs]
    have h4 := (sizeOk_iff s).1 hs
    by_cases h0 : at_ < 0
    · rw [if_pos h0, if_neg (by omega)]
      simp only [le_Get.j0, if_true]
    · rw [if_neg h0, wrap64_id (by omega) (by omega)]
      by_cases h1 : at_ > (l.length : Int) - s
      · rw [if_neg (by omega), decide_eq_true h1]
        simp only [le_Get.j0, if_true]
      · rw [if_pos (by omega), decide_eq_false h1]
        simp only [le_Get.j0, Bool.false_eq_true, if_false]
        rw [if_pos (by omega), wrap64_id (by omega) (by omega), if_pos (by omega), if_pos (by omega)]
        obtain ⟨a, rfl⟩ : ∃ a : Nat, at_ = a := ⟨at_.toNat, by omega⟩
        obtain ⟨t, rfl⟩ : ∃ t : Nat, s = t := ⟨s.toNat, by omega⟩
        have ht : t ≤ 8 := by omega
        have e : (l.take ((a : Int) + (t : Int)).toNat).drop (a : Int).toNat = (l.drop a).take t := by
          rw [show ((a : Int) + (t : Int)).toNat = a + t by omega, Int.toNat_natCast, List.drop_take]
          congr 1
          omega
        rw [e]
        simp only [Option.bind_some]
        have hlt : ((l.drop a).take t).length = t := by simp; omega
        have := get_loop ((l.drop a).take t) (allB_take (allB_drop hl a) t) (by omega) t k 0 (by omega) (by omega)
        simp only [List.take_zero, numI] at this
        rw [show ((0 : Nat) : Int) = 0 from rfl] at this
        rw [this]
        simp
  · rw [if_neg hs, if_neg hs]
theorem putOk_iff (n s : Int) : putOk n s = true ↔ sizeOk s = true ∧ (s = 8 ∨ 0 ≤ n ∧ n < 2 ^ (8 * s.toNat)) := by
  simp [putOk]
theorem putAns_yes {n s : Int} (h : putOk n s = true) : putAns n s = (bytesI (u64 n) s.toNat, 0) := if_pos h
theorem putAns_no {n s : Int} (h : ¬ putOk n s = true) : putAns n s = ([], 2) := if_neg h
/-- What is put is got, wherever it stands. -/
theorem get_put {n s : Int} (a c : List Int) (h : putOk n s = true) (h0 : -9223372036854775808 ≤ n) (h1 : n ≤ 9223372036854775807) :
    getAns (a ++ bytesI (u64 n) s.toNat ++ c) a.length s = (n, 0) := by
  obtain ⟨hs, hn⟩ := (putOk_iff n s).1 h
  have h4 := (sizeOk_iff s).1 hs
  unfold getAns
  have hseg : ((a ++ bytesI (u64 n) s.toNat ++ c).drop (a.length : Int).toNat).take s.toNat = bytesI (u64 n) s.toNat := by
    rw [Int.toNat_natCast, List.append_assoc, List.drop_left, List.take_left' (bytesI_length _ _)]
  rw [if_pos hs, if_pos (by simp [bytesI_length]; omega), hseg, numI_bytesI]
  congr 1
  rcases hn with rfl | ⟨hn0, hn1⟩
  · show wrap64 (u64 n % 18446744073709551616) = n
    unfold u64 wrap64
    omega
  · rw [u64_id hn0 (by omega), Int.emod_eq_of_lt hn0 hn1, wrap64_id (by omega) h1]
/-- What is got is put as just these bytes. -/
theorem put_get {l : List Int} {at_ s : Int} (hl : AllB l) (hs : sizeOk s = true) (ha : 0 ≤ at_) (hb : at_ + s ≤ l.length) :
    putAns (getAns l at_ s).1 s = ((l.drop at_.toNat).take s.toNat, 0) := by
  have h4 := (sizeOk_iff s).1 hs
  unfold getAns
  rw [if_pos hs, if_pos ⟨ha, hb⟩]
  have hlen : ((l.drop at_.toNat).take s.toNat).length = s.toNat := by simp; omega
  have hseg : AllB ((l.drop at_.toNat).take s.toNat) := allB_take (allB_drop hl _) _
  have hr := numI_range _ hseg
  have hb2 := bytesI_numI _ hseg
  rw [hlen] at hr hb2
  generalize (l.drop at_.toNat).take s.toNat = seg at *
  have hlt : numI seg < 18446744073709551616 := by
    rcases h4 with rfl | rfl | rfl | rfl <;> simp only [Int.reduceToNat, Nat.reduceMul, Int.reducePow] at hr <;> omega
  have hok : putOk (wrap64 (numI seg)) s = true := by
    rw [putOk_iff]
    refine ⟨hs, ?_⟩
    by_cases h8 : s = 8
    · exact .inl h8
    · right
      have : numI seg < 9223372036854775808 := by
        rcases h4 with rfl | rfl | rfl | h <;> (try simp only [Int.reduceToNat, Nat.reduceMul, Int.reducePow] at hr) <;> omega
      rw [wrap64_id (by omega) (by omega)]
      exact hr
  rw [putAns_yes hok]
  show (bytesI (u64 (wrap64 (numI seg))) s.toNat, (0 : Int)) = _
  rw [u64_wrap64 hr.1 hlt, hb2]
theorem getAns_no {l : List Int} {at_ s : Int} (h : (getAns l at_ s).2 ≠ 0) : (getAns l at_ s).1 = 0 := by
  unfold getAns at *
  split <;> rename_i h1
  · rw [if_pos h1] at h
    split <;> rename_i h2
    · rw [if_pos h2] at h
      exact absurd rfl h
    · rfl
  · rfl
theorem getAns_yes {l : List Int} {at_ s : Int} (h : (getAns l at_ s).2 = 0) : sizeOk s = true ∧ 0 ≤ at_ ∧ at_ + s ≤ l.length := by
  unfold getAns at h
  split at h <;> rename_i h1
  · split at h <;> rename_i h2
    · exact ⟨h1, h2⟩
    · simp at h
  · simp at h
theorem getAns_range {l : List Int} {at_ s : Int} : -9223372036854775808 ≤ (getAns l at_ s).1 ∧ (getAns l at_ s).1 ≤ 9223372036854775807 := by
  unfold getAns
  split
  · split
    · simp only [wrap64]; omega
    · simp
  · simp
theorem putAns_len {n s : Int} (h : (putAns n s).2 = 0) : ((putAns n s).1.length : Int) = s := by
  unfold putAns at *
  split at h <;> rename_i h1
  · rw [if_pos h1]
    have := (sizeOk_iff s).1 ((putOk_iff n s).1 h1).1
    simp [bytesI_length]
    omega
  · simp at h
theorem putAns_ok {n s : Int} (h : (putAns n s).2 = 0) : putOk n s = true := by
  unfold putAns at h
  split at h <;> rename_i h1
  · exact h1
  · simp at h
end Go.Proofs.Ytdhkmaiidbomdaf.Z
