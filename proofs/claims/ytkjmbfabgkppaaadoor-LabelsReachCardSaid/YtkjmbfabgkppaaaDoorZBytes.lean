/- Plain laws of numbers and their bytes, the lowest first: what is cut into bytes is put together again, and the other way round; for bytes that are from 0 to 255. -/
import Derived.Laws.BitsLemmas
import Derived.Laws.BytesArg
import Derived.Laws.Strings
import Derived.Test.YtkjmbfabgkppaaaDoorWWords
import Derived.Test.YtkjmbfabgkppaaaDoorWMore
namespace Go.Proofs.YtkjmbfabgkppaaaDoor.Z
open Go.RowKit Go.Proofs.YtkjmbfabgkppaaaDoorW.PrintWords Go.Proofs.YtkjmbfabgkppaaaDoorW.PrintLast Go.Proofs.YtkjmbfabgkppaaaDoorW.PrintMore

/-- Byte number i of a number. -/
def byteAt (u : Int) (i : Nat) : Int := u / 2 ^ (8 * i) % 256
/-- So many bytes of a number, the lowest first. -/
def bytesI (u : Int) (m : Nat) : List Int := (List.range m).map (byteAt u)
/-- The number that bytes are. -/
def numI : List Int → Int
  | [] => 0
  | b :: l => b + 256 * numI l
/-- All are bytes. -/
def AllB (l : List Int) : Prop := ∀ x ∈ l, 0 ≤ x ∧ x < 256

theorem allB_of_wf {l : List Int} (h : ∀ x ∈ l, (Lit.int .u8 x).wf = true) : AllB l := by
  intro x hx
  have := h x hx
  simp [Lit.wf, IntKind.min, IntKind.max, IntKind.signed, IntKind.bits] at this
  omega
theorem wf_of_allB {l : List Int} (h : AllB l) : ∀ x ∈ l, (Lit.int .u8 x).wf = true := by
  intro x hx
  have := h x hx
  simp [Lit.wf, IntKind.min, IntKind.max, IntKind.signed, IntKind.bits]
  omega
theorem wf64 {x : Int} (h : (Lit.int .i64 x).wf = true) : -9223372036854775808 ≤ x ∧ x ≤ 9223372036854775807 := by
  simp [Lit.wf, IntKind.min, IntKind.max, IntKind.signed, IntKind.bits] at h
  omega
theorem wfu8 {x : Int} (h : (Lit.int .u8 x).wf = true) : 0 ≤ x ∧ x ≤ 255 := by
  simp [Lit.wf, IntKind.min, IntKind.max, IntKind.signed, IntKind.bits] at h
  omega
theorem allB_take {l : List Int} (h : AllB l) (n : Nat) : AllB (l.take n) := fun x hx => h x (List.mem_of_mem_take hx)
theorem allB_drop {l : List Int} (h : AllB l) (n : Nat) : AllB (l.drop n) := fun x hx => h x (List.mem_of_mem_drop hx)
theorem allB_append {a b : List Int} (h : AllB a) (k : AllB b) : AllB (a ++ b) := by
  intro x hx
  rcases List.mem_append.1 hx with h1 | h1
  · exact h x h1
  · exact k x h1
theorem allB_nil : AllB [] := fun x hx => by cases hx
theorem allB_cons {b : Int} {l : List Int} (h : AllB (b :: l)) : (0 ≤ b ∧ b < 256) ∧ AllB l :=
  ⟨h b (by simp), fun x hx => h x (by simp [hx])⟩

theorem bytesI_length (u : Int) (m : Nat) : (bytesI u m).length = m := by simp [bytesI]
theorem byteAt_range (u : Int) (i : Nat) : 0 ≤ byteAt u i ∧ byteAt u i < 256 := by unfold byteAt; omega
theorem bytesI_allB (u : Int) (m : Nat) : AllB (bytesI u m) := by
  intro x hx
  simp [bytesI] at hx
  obtain ⟨i, _, rfl⟩ := hx
  exact byteAt_range u i
theorem byteAt_succ (u : Int) (i : Nat) : byteAt u (i + 1) = byteAt (u / 256) i := by
  unfold byteAt
  have e : (2 : Int) ^ (8 * (i + 1)) = 256 * 2 ^ (8 * i) := by
    rw [show 8 * (i + 1) = 8 + 8 * i by omega, Int.pow_add]
    rfl
  rw [e, Int.ediv_ediv_of_nonneg (by decide)]
theorem bytesI_succ (u : Int) (m : Nat) : bytesI u (m + 1) = u % 256 :: bytesI (u / 256) m := by
  unfold bytesI
  rw [List.range_succ_eq_map, List.map_cons, List.map_map]
  congr 1
  · simp [byteAt]
  · apply List.map_congr_left
    intro i _
    exact byteAt_succ u i
theorem bytesI_snoc (u : Int) (m : Nat) : bytesI u (m + 1) = bytesI u m ++ [byteAt u m] := by
  unfold bytesI
  rw [List.range_succ, List.map_append]
  rfl
theorem bytesI_zero (u : Int) : bytesI u 0 = [] := rfl
theorem emod_mul256 (u P : Int) (hP : 0 < P) : u % (256 * P) = u % 256 + 256 * (u / 256 % P) := by
  have h1 := Int.mul_ediv_add_emod u 256
  have h2 := Int.mul_ediv_add_emod (u / 256) P
  have h3 := Int.emod_nonneg (u / 256) (show P ≠ 0 by omega)
  have h4 := Int.emod_lt_of_pos (u / 256) hP
  have e : u = (u % 256 + 256 * (u / 256 % P)) + (256 * P) * (u / 256 / P) := by
    rw [Int.mul_assoc]
    omega
  have e2 : u % (256 * P) = (u % 256 + 256 * (u / 256 % P)) % (256 * P) := by
    conv => lhs; rw [e, Int.add_mul_emod_self_left]
  rw [e2, Int.emod_eq_of_lt (by omega) (by omega)]
theorem numI_bytesI (m : Nat) : ∀ u : Int, numI (bytesI u m) = u % 2 ^ (8 * m) := by
  induction m with
  | zero => intro u; simp [bytesI_zero, numI, Int.emod_one]
  | succ m ih =>
    intro u
    rw [bytesI_succ, numI, ih]
    have e : (2 : Int) ^ (8 * (m + 1)) = 256 * 2 ^ (8 * m) := by
      rw [show 8 * (m + 1) = 8 + 8 * m by omega, Int.pow_add]
      rfl
    rw [e, emod_mul256 _ _ (Int.pow_pos (by decide))]
theorem numI_range (l : List Int) (h : AllB l) : 0 ≤ numI l ∧ numI l < 2 ^ (8 * l.length) := by
  induction l with
  | nil => simp [numI]
  | cons b l ih =>
    obtain ⟨hb, hl⟩ := allB_cons h
    have := ih hl
    have e : (2 : Int) ^ (8 * (l.length + 1)) = 256 * 2 ^ (8 * l.length) := by
      rw [show 8 * (l.length + 1) = 8 + 8 * l.length by omega, Int.pow_add]
      rfl
    rw [List.length_cons, e, numI]
    omega
theorem bytesI_numI (l : List Int) (h : AllB l) : bytesI (numI l) l.length = l := by
  induction l with
  | nil => rfl
  | cons b l ih =>
    obtain ⟨hb, hl⟩ := allB_cons h
    rw [List.length_cons, bytesI_succ, numI]
    have e1 : (b + 256 * numI l) % 256 = b := by omega
    have e2 : (b + 256 * numI l) / 256 = numI l := by omega
    rw [e1, e2, ih hl]
theorem numI_append (a b : List Int) : numI (a ++ b) = numI a + 2 ^ (8 * a.length) * numI b := by
  induction a with
  | nil => simp [numI]
  | cons x a ih =>
    have e : (2 : Int) ^ (8 * (a.length + 1)) = 256 * 2 ^ (8 * a.length) := by
      rw [show 8 * (a.length + 1) = 8 + 8 * a.length by omega, Int.pow_add]
      rfl
    rw [List.cons_append, numI, numI, ih, List.length_cons, e, Int.mul_add, Int.mul_assoc]
    omega
theorem numI_inj {a b : List Int} (ha : AllB a) (hb : AllB b) (hl : a.length = b.length) (h : numI a = numI b) : a = b := by
  rw [← bytesI_numI a ha, ← bytesI_numI b hb, h, hl]
theorem bytesI_mod (u : Int) (m : Nat) : bytesI (u % 2 ^ (8 * m)) m = bytesI u m := by
  apply numI_inj (bytesI_allB _ _) (bytesI_allB _ _) (by simp [bytesI_length])
  rw [numI_bytesI, numI_bytesI, Int.emod_emod_of_dvd _ (Int.dvd_refl _)]
theorem bytesI_congr {u v : Int} {m : Nat} (h : u % 2 ^ (8 * m) = v % 2 ^ (8 * m)) : bytesI u m = bytesI v m := by
  rw [← bytesI_mod u, ← bytesI_mod v, h]
theorem bytesI_eq_iff {u v : Int} {m : Nat} : bytesI u m = bytesI v m ↔ u % 2 ^ (8 * m) = v % 2 ^ (8 * m) :=
  ⟨fun h => by rw [← numI_bytesI, ← numI_bytesI, h], bytesI_congr⟩
theorem bytesI_take (u : Int) (m j : Nat) (h : j ≤ m) : (bytesI u m).take j = bytesI u j := by
  unfold bytesI
  rw [← List.map_take, List.take_range, Nat.min_eq_left h]
/-- A string's letters, of a string made of numbers. -/
theorem str_toList (l : List Int) : (strOfNums l).toList = l.map fun n => UInt8.ofNat n.toNat := by
  unfold strOfNums
  exact ByteArray.toList_mk _
theorem str_inj {a b : List Int} (ha : AllB a) (hb : AllB b) (h : (strOfNums a).toList = (strOfNums b).toList) : a = b := by
  rw [str_toList, str_toList] at h
  have key : ∀ l : List Int, AllB l → (l.map fun n => UInt8.ofNat n.toNat).map (fun c : UInt8 => (c.toNat : Int)) = l := by
    intro l hl
    rw [List.map_map]
    conv => rhs; rw [← List.map_id l]
    apply List.map_congr_left
    intro x hx
    have := hl x hx
    simp only [Function.comp, UInt8.toNat_ofNat', id]
    omega
  rw [← key a ha, ← key b hb, h]
theorem str_iff {a b : List Int} (ha : AllB a) (hb : AllB b) : (strOfNums a).toList = (strOfNums b).toList ↔ a = b := ⟨str_inj ha hb, fun h => by rw [h]⟩
end Go.Proofs.YtkjmbfabgkppaaaDoor.Z
