/- What package rela tells of types and writes of relocations; for any numbers, with enough rounds. -/
import Derived.Test.YtdhkmaiidbomdafZLe
import Derived.Test.YtdhkmaiidbomdafPx2
namespace Go.Proofs.Ytdhkmaiidbomdaf.Z
open Go.RowKit Go.Proofs.Ytdhkmaiidbomdaf.P Go.Proofs.YtdhkmaiidbomdafW.PrintWords Go.Proofs.YtdhkmaiidbomdafW.PrintLast Go.Proofs.YtdhkmaiidbomdafW.PrintMore
set_option linter.unusedSimpArgs false
set_option linter.unusedVariables false

theorem mono_some {α : Type} {g : Nat → Option α} (m : ∀ k, LeO (g k) (g (k + 1))) {a b : Nat} {v : α} (h : g a = some v) (hab : a ≤ b) : g b = some v := by
  induction hab with
  | refl => exact h
  | step _ ih => exact m _ _ ih
theorem u8_all {P : Int → Prop} (h : ∀ n : Fin 256, P (n.val : Int)) {x : Int} (hx : 0 ≤ x ∧ x ≤ 255) : P x := by
  have := h ⟨x.toNat, by omega⟩
  simp only [show ((x.toNat : Nat) : Int) = x by omega] at this
  exact this
/-- How many bytes a type is about, and no error; or the error. -/
def fieldAns (kd : Int) : Int × Int := (rela_Field.f 5 kd).getD (0, 2)
theorem field_all : ∀ n : Fin 256, rela_Field.f 5 (n.val : Int) = some (fieldAns (n.val : Int)) := by decide +kernel
theorem field_eq {kd : Int} (h : 0 ≤ kd ∧ kd ≤ 255) {k : Nat} (hk : 5 ≤ k) : rela_Field.f k kd = some (fieldAns kd) :=
  mono_some (g := fun k => rela_Field.f k kd) (fun k => rela_Field.mono kd k) (u8_all (P := fun x => rela_Field.f 5 x = some (fieldAns x)) field_all h) hk
theorem field_vals {kd : Int} (h : 0 ≤ kd ∧ kd ≤ 255) : (fieldAns kd).2 = 0 ∧ ((fieldAns kd).1 = 0 ∨ (fieldAns kd).1 = 1 ∨ (fieldAns kd).1 = 2 ∨ (fieldAns kd).1 = 4 ∨ (fieldAns kd).1 = 8) ∨ (fieldAns kd).2 = 2 ∧ (fieldAns kd).1 = 0 :=
  u8_all (P := fun x => (fieldAns x).2 = 0 ∧ ((fieldAns x).1 = 0 ∨ (fieldAns x).1 = 1 ∨ (fieldAns x).1 = 2 ∨ (fieldAns x).1 = 4 ∨ (fieldAns x).1 = 8) ∨ (fieldAns x).2 = 2 ∧ (fieldAns x).1 = 0) (by decide +kernel) h
def relaOk (off kd sym add : Int) : Bool := decide ((fieldAns kd).2 = 0 ∧ 0 ≤ off ∧ off ≤ 4096 ∧ -1 ≤ sym ∧ sym ≤ 63 ∧ -2147483648 ≤ add ∧ add ≤ 4294967295)
theorem relaOk_iff {off kd sym add : Int} : relaOk off kd sym add = true ↔ (fieldAns kd).2 = 0 ∧ 0 ≤ off ∧ off ≤ 4096 ∧ -1 ≤ sym ∧ sym ≤ 63 ∧ -2147483648 ≤ add ∧ add ≤ 4294967295 := decide_eq_true_iff
def relaBytes (off kd sym add : Int) : List Int := bytesI (u64 off) 8 ++ (bytesI (u64 kd) 4 ++ (bytesI (u64 (sym + 1)) 4 ++ bytesI (u64 add) 8))
/-- What is written of a relocation. -/
def relaAns (off kd sym add : Int) : List Int × Int := if relaOk off kd sym add = true then (relaBytes off kd sym add, 0) else ([], 8)
theorem rput8 (n : Int) : putAns n 8 = (bytesI (u64 n) 8, 0) := putAns_yes ((putOk_iff n 8).2 ⟨by decide, .inl rfl⟩)
theorem rput4 {n : Int} (h0 : 0 ≤ n) (h1 : n < 4294967296) : putAns n 4 = (bytesI (u64 n) 4, 0) := putAns_yes ((putOk_iff n 4).2 ⟨by decide, .inr ⟨h0, by simpa using h1⟩⟩)
theorem relawrite_eq (sec off kd sym add : Int) (hkd : 0 ≤ kd ∧ kd ≤ 255) (k : Nat) (hk : 20 ≤ k) : rela_Write.f k sec off kd sym add = some (relaAns off kd sym add) := by
  unfold rela_Write.f relaAns
  rw [field_eq hkd (by omega)]
  simp only [Option.bind_some]
  by_cases h : relaOk off kd sym add = true
  · have q := relaOk_iff.1 h
    rw [if_pos h, if_pos q.1, if_neg (by omega), if_neg (by omega), if_neg (by omega), if_neg (by omega), if_neg (by omega), if_neg (by omega), wrap64_id (by omega) (by omega)]
    simp only [rela_Write.go, put_eq _ _ k (by omega), rput8, rput4 (n := kd) (by omega) (by omega), rput4 (n := sym + 1) (by omega) (by omega), Option.bind_some, List.length_append, List.length_nil, bytesI_length, List.nil_append, List.append_assoc]
    rw [if_pos (by decide), if_pos (by decide), if_pos (by decide), if_pos (by decide)]
    rfl
  · rw [if_neg h]
    have q := fun x => h (relaOk_iff.2 x)
    by_cases c0 : (fieldAns kd).2 = 0
    · rw [if_pos c0]
      by_cases c1 : off < 0
      · rw [if_pos c1]
      rw [if_neg c1]
      by_cases c2 : off > 4096
      · rw [if_pos c2]
      rw [if_neg c2]
      by_cases c3 : sym < -1
      · rw [if_pos c3]
      rw [if_neg c3]
      by_cases c4 : sym ≥ 64
      · rw [if_pos c4]
      rw [if_neg c4]
      by_cases c5 : add < -2147483648
      · rw [if_pos c5]
      rw [if_neg c5]
      by_cases c6 : add > 4294967295
      · rw [if_pos c6]
      exact absurd ⟨c0, by omega, by omega, by omega, by omega, by omega, by omega⟩ q
    · rw [if_neg c0]
theorem relaBytes_length (off kd sym add : Int) : (relaBytes off kd sym add).length = 24 := by
  unfold relaBytes
  simp [bytesI_length]
theorem relaBytes_allB (off kd sym add : Int) : AllB (relaBytes off kd sym add) := by
  unfold relaBytes
  exact allB_append (bytesI_allB _ _) (allB_append (bytesI_allB _ _) (allB_append (bytesI_allB _ _) (bytesI_allB _ _)))
def relaOff (l : List Int) : Int := (getAns l 0 8).1
def relaKind (l : List Int) : Int := (getAns l 8 4).1 % 256
def relaSym (l : List Int) : Int := wrap64 ((getAns l 12 4).1 - 1)
def relaAdd (l : List Int) : Int := (getAns l 16 8).1
/-- What is written is read. -/
theorem rela_parts {off kd sym add : Int} (hkd : 0 ≤ kd ∧ kd ≤ 255) (h : relaOk off kd sym add = true) :
    relaOff (relaBytes off kd sym add) = off ∧ relaKind (relaBytes off kd sym add) = kd ∧ relaSym (relaBytes off kd sym add) = sym ∧ relaAdd (relaBytes off kd sym add) = add := by
  have q := relaOk_iff.1 h
  refine ⟨?_, ?_, ?_, ?_⟩
  · unfold relaOff relaBytes
    have := get_put (n := off) (s := 8) [] (bytesI (u64 kd) 4 ++ (bytesI (u64 (sym + 1)) 4 ++ bytesI (u64 add) 8)) ((putOk_iff _ _).2 ⟨by decide, .inl rfl⟩) (by omega) (by omega)
    simp only [List.nil_append, List.length_nil, List.append_assoc, show Int.toNat 4 = 4 from rfl, show Int.toNat 8 = 8 from rfl] at this ⊢
    exact congrArg Prod.fst this
  · unfold relaKind relaBytes
    have := get_put (n := kd) (s := 4) (bytesI (u64 off) 8) (bytesI (u64 (sym + 1)) 4 ++ bytesI (u64 add) 8) ((putOk_iff _ _).2 ⟨by decide, .inr ⟨by omega, by simp; omega⟩⟩) (by omega) (by omega)
    simp only [List.length_append, bytesI_length, List.append_assoc, show Int.toNat 4 = 4 from rfl, show Int.toNat 8 = 8 from rfl] at this ⊢
    have e := congrArg Prod.fst this
    dsimp only at e
    rw [show (8 : Int) = ((8 : Nat) : Int) from rfl, e]
    omega
  · unfold relaSym relaBytes
    have := get_put (n := sym + 1) (s := 4) (bytesI (u64 off) 8 ++ bytesI (u64 kd) 4) (bytesI (u64 add) 8) ((putOk_iff _ _).2 ⟨by decide, .inr ⟨by omega, by simp; omega⟩⟩) (by omega) (by omega)
    simp only [List.length_append, bytesI_length, List.append_assoc, show Int.toNat 4 = 4 from rfl, show Int.toNat 8 = 8 from rfl] at this ⊢
    have e := congrArg Prod.fst this
    dsimp only at e
    rw [show (12 : Int) = ((8 + 4 : Nat) : Int) from rfl, e, wrap64_id (by omega) (by omega)]
    omega
  · unfold relaAdd relaBytes
    have := get_put (n := add) (s := 8) (bytesI (u64 off) 8 ++ (bytesI (u64 kd) 4 ++ bytesI (u64 (sym + 1)) 4)) [] ((putOk_iff _ _).2 ⟨by decide, .inl rfl⟩) (by omega) (by omega)
    simp only [List.length_append, bytesI_length, List.append_assoc, List.append_nil, show Int.toNat 4 = 4 from rfl, show Int.toNat 8 = 8 from rfl] at this ⊢
    exact congrArg Prod.fst this
theorem relaBytes_inj {off kd sym add off2 kd2 sym2 add2 : Int} (hkd : 0 ≤ kd ∧ kd ≤ 255) (h : relaOk off kd sym add = true) (hkd2 : 0 ≤ kd2 ∧ kd2 ≤ 255) (h2 : relaOk off2 kd2 sym2 add2 = true)
    (e : relaBytes off kd sym add = relaBytes off2 kd2 sym2 add2) : off = off2 ∧ kd = kd2 ∧ sym = sym2 ∧ add = add2 := by
  have a := rela_parts hkd h
  have b := rela_parts hkd2 h2
  rw [e] at a
  exact ⟨a.1.symm.trans b.1, a.2.1.symm.trans b.2.1, a.2.2.1.symm.trans b.2.2.1, a.2.2.2.symm.trans b.2.2.2⟩
end Go.Proofs.Ytdhkmaiidbomdaf.Z
