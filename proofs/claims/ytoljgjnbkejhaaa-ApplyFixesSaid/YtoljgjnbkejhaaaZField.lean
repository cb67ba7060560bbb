/- How many bytes package rela tells a type to be about; for any type, with enough rounds. -/
import Derived.Test.YtoljgjnbkejhaaaZLe
import Derived.Test.YtoljgjnbkejhaaaPx1
namespace Go.Proofs.Ytoljgjnbkejhaaa.Z
open Go.RowKit Go.Proofs.Ytoljgjnbkejhaaa.P Go.Proofs.YtoljgjnbkejhaaaW.PrintWords Go.Proofs.YtoljgjnbkejhaaaW.PrintLast Go.Proofs.YtoljgjnbkejhaaaW.PrintMore
set_option linter.unusedSimpArgs false
set_option linter.unusedVariables false
theorem mono_some {α : Type} {g : Nat → Option α} (m : ∀ k, LeO (g k) (g (k + 1))) {a b : Nat} {v : α} (h : g a = some v) (hab : a ≤ b) : g b = some v := by
  induction hab with
  | refl => exact h
  | step _ ih => exact m _ _ ih
theorem u8_all {P : Int → Prop} (h : ∀ n : Fin 256, P (n.val : Int)) {x : Int} (hx : 0 ≤ x ∧ x ≤ 255) : P x := by
  have := h ⟨x.toNat, by omega⟩
  simp only [show ((x.toNat : Nat) : Int) = x by omega] at this
  exact this
/-- How many bytes a type is about, and no error; or the error. -/
def fieldAns (kd : Int) : Int × Int := (rela_Field.f 5 kd).getD (0, 2)
theorem field_all : ∀ n : Fin 256, rela_Field.f 5 (n.val : Int) = some (fieldAns (n.val : Int)) := by decide +kernel
theorem field_eq {kd : Int} (h : 0 ≤ kd ∧ kd ≤ 255) {k : Nat} (hk : 5 ≤ k) : rela_Field.f k kd = some (fieldAns kd) :=
  mono_some (g := fun k => rela_Field.f k kd) (fun k => rela_Field.mono kd k) (u8_all (P := fun x => rela_Field.f 5 x = some (fieldAns x)) field_all h) hk
theorem field_vals {kd : Int} (h : 0 ≤ kd ∧ kd ≤ 255) : (fieldAns kd).2 = 0 ∧ ((fieldAns kd).1 = 0 ∨ (fieldAns kd).1 = 1 ∨ (fieldAns kd).1 = 2 ∨ (fieldAns kd).1 = 4 ∨ (fieldAns kd).1 = 8) ∨ (fieldAns kd).2 = 2 ∧ (fieldAns kd).1 = 0 :=
  u8_all (P := fun x => (fieldAns x).2 = 0 ∧ ((fieldAns x).1 = 0 ∨ (fieldAns x).1 = 1 ∨ (fieldAns x).1 = 2 ∨ (fieldAns x).1 = 4 ∨ (fieldAns x).1 = 8) ∨ (fieldAns x).2 = 2 ∧ (fieldAns x).1 = 0) (by decide +kernel) h
end Go.Proofs.Ytoljgjnbkejhaaa.Z
