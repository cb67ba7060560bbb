/- Numbers alone, behind a stroke, and together. -/
import Derived.Test.YtgihgmniijhfoaaDoorPx13
namespace Go.Proofs.YtgihgmniijhfoaaDoor.Pure
open Go.RowKit Go.Proofs.YtgihgmniijhfoaaDoor.P Go.Proofs.YtgihgmniijhfoaaDoor.Lex Go.Proofs.YtgihgmniijhfoaaDoor.Ex Go.Proofs.YtgihgmniijhfoaaDoorW.PrintWords Go.Proofs.YtgihgmniijhfoaaDoorW.PrintLast
set_option linter.unusedSimpArgs false
set_option linter.unusedVariables false

theorem wf64 {x : Int} (h : (Lit.int .i64 x).wf = true) : -9223372036854775808 ≤ x ∧ x < 9223372036854775808 := by
  simp [Lit.wf, IntKind.min, IntKind.max, IntKind.signed, IntKind.bits] at h
  omega
theorem may_num (n : Int) : mayL ⟨2, [], n⟩ = true := by
  simp only [mayL, textL]
  rw [if_neg (by decide), if_neg (by decide), if_neg (by decide), if_pos trivial]
  split <;> rfl
theorem may_mark (c : UInt8) (h : markC c = true) : mayL (mk c) = true := by simp [mayL, textL, mk, h]
theorem w64_w64 (n : Int) : w64 (w64 n) = w64 n := w64_id (w64_range n)
theorem all_one (n : Int) : [(⟨2, [], n⟩ : Tok)].all mayL = true := by simp [may_num]
theorem all_less (n : Int) : [mk 45, (⟨2, [], n⟩ : Tok)].all mayL = true := by simp [may_num, may_mark 45 (by decide)]
theorem all_both (n m : Int) : [(⟨2, [], n⟩ : Tok), mk 43, (⟨2, [], m⟩ : Tok)].all mayL = true := by simp [may_num, may_mark 43 (by decide)]
theorem one_l (n : Int) (h : -9223372036854775808 ≤ n ∧ n < 9223372036854775808) : parseL [⟨2, [], n⟩] 0 = (⟨[], [], n, 0⟩, 1, 0) := by
  unfold parseL
  rw [all_one, if_neg (by simp), if_neg (by simp)]
  simp [parseR, sumR, tailOf, first, mk, termT, loopR, x0, w64_id h]
theorem less_l (n : Int) : parseL [mk 45, ⟨2, [], n⟩] 0 = (⟨[], [], w64 (-n), 0⟩, 2, 0) := by
  unfold parseL
  rw [all_less, if_neg (by simp), if_neg (by simp)]
  simp [parseR, sumR, tailOf, first, mk, termT, loopR, x0, w64_w64]
theorem both_l (n m : Int) (h : -9223372036854775808 ≤ n ∧ n < 9223372036854775808) : parseL [⟨2, [], n⟩, mk 43, ⟨2, [], m⟩] 0 = (⟨[], [], w64 (n + m), 0⟩, 3, 0) := by
  unfold parseL
  rw [all_both, if_neg (by simp), if_neg (by simp)]
  simp [parseR, sumR, tailOf, first, mk, termT, loopR, startsT, x0, w64_id h]
theorem alive_f : quoinlaw16_alive.f = some true := by decide +kernel
theorem ExprNumbers : quoinlaw16_ExprNumbers.Pure := by
  intro a b ha hb
  have ra := wf64 ha
  have rb := wf64 hb
  have z : -9223372036854775808 ≤ (0 : Int) ∧ (0 : Int) < 9223372036854775808 := by omega
  have w : ∀ n, wrap64 n = w64 n := w64_eq
  have e1 : expr_Parse.f [(⟨2, (⟨#[]⟩ : ByteArray), a⟩ : S41)] 0 = some (⟨#[]⟩, ⟨#[]⟩, a, 0, 1, 0) := by
    unfold expr_Parse.f
    rw [if_pos ⟨by simp, by intro x hx; simp at hx; subst hx; exact ⟨(by decide : (0 : Int) ≤ 2), (by decide : (⟨#[]⟩ : ByteArray).size ≤ 1000000), ra⟩⟩]
    rw [show ([(⟨2, (⟨#[]⟩ : ByteArray), a⟩ : S41)].map ZT.toTok) = [⟨2, [], a⟩] from rfl, one_l a ra]
    rfl
  have e2 : expr_Parse.f [(⟨4, (⟨#[45]⟩ : ByteArray), 0⟩ : S41), (⟨2, (⟨#[]⟩ : ByteArray), a⟩ : S41)] 0 = some (⟨#[]⟩, ⟨#[]⟩, w64 (-a), 0, 2, 0) := by
    unfold expr_Parse.f
    rw [if_pos ⟨by simp, by intro x hx; simp at hx; rcases hx with rfl | rfl; exact ⟨by decide, by decide, z⟩; exact ⟨(by decide : (0 : Int) ≤ 2), (by decide : (⟨#[]⟩ : ByteArray).size ≤ 1000000), ra⟩⟩]
    rw [show ([(⟨4, (⟨#[45]⟩ : ByteArray), 0⟩ : S41), (⟨2, (⟨#[]⟩ : ByteArray), a⟩ : S41)].map ZT.toTok) = [mk 45, ⟨2, [], a⟩] from rfl, less_l a]
    rfl
  have e3 : expr_Parse.f [(⟨2, (⟨#[]⟩ : ByteArray), a⟩ : S41), (⟨4, (⟨#[43]⟩ : ByteArray), 0⟩ : S41), (⟨2, (⟨#[]⟩ : ByteArray), b⟩ : S41)] 0 = some (⟨#[]⟩, ⟨#[]⟩, w64 (a + b), 0, 3, 0) := by
    unfold expr_Parse.f
    rw [if_pos ⟨by simp, by intro x hx; simp at hx; rcases hx with rfl | rfl | rfl; exact ⟨(by decide : (0 : Int) ≤ 2), (by decide : (⟨#[]⟩ : ByteArray).size ≤ 1000000), ra⟩; exact ⟨by decide, by decide, z⟩; exact ⟨(by decide : (0 : Int) ≤ 2), (by decide : (⟨#[]⟩ : ByteArray).size ≤ 1000000), rb⟩⟩]
    rw [show ([(⟨2, (⟨#[]⟩ : ByteArray), a⟩ : S41), (⟨4, (⟨#[43]⟩ : ByteArray), 0⟩ : S41), (⟨2, (⟨#[]⟩ : ByteArray), b⟩ : S41)].map ZT.toTok) = [⟨2, [], a⟩, mk 43, ⟨2, [], b⟩] from rfl, both_l a b ra]
    rfl
  have hrd : rd_T41 [(⟨2, (⟨#[]⟩ : ByteArray), a⟩ : S41)] 0 = ⟨2, (⟨#[]⟩ : ByteArray), a⟩ := rfl
  have he : (⟨#[]⟩ : ByteArray).toList = [] := by rw [ByteArray.toList_eq]
  unfold quoinlaw16_ExprNumbers.f
  simp only [Option.bind_some, hrd, e1, e2, e3, alive_f]
  simp [w, he]
end Go.Proofs.YtgihgmniijhfoaaDoor.Pure
