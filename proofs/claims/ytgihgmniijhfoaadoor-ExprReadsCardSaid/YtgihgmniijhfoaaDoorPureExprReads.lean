/- The expression with which tokens go on is the document's. -/
import Derived.Test.YtgihgmniijhfoaaDoorPx18
import Derived.Test.YtgihgmniijhfoaaDoorZRef16b
namespace Go.Proofs.YtgihgmniijhfoaaDoor.Pure
open Go.RowKit Go.Proofs.YtgihgmniijhfoaaDoor.P Go.Proofs.YtgihgmniijhfoaaDoor.Lex Go.Proofs.YtgihgmniijhfoaaDoor.Ex Go.Proofs.YtgihgmniijhfoaaDoorW.PrintWords Go.Proofs.YtgihgmniijhfoaaDoorW.PrintLast
set_option linter.unusedSimpArgs false
set_option linter.unusedVariables false
theorem wf_tok {x : S41} (h : wfS41 x) : 0 ≤ x.f0 ∧ -9223372036854775808 ≤ x.f2 ∧ x.f2 < 9223372036854775808 := by
  have h0 := h.1
  have h2 := h.2.2
  simp [Lit.wf, IntKind.min, IntKind.max, IntKind.signed, IntKind.bits] at h0 h2
  omega
theorem ExprReads : quoinlaw16_ExprReads.Pure := by
  intro l a hl ha
  refine ⟨1003000, ?_⟩
  obtain ⟨g, hg, hg2⟩ := ZR.great_f l hl.1 1003000 (by omega)
  unfold quoinlaw16_ExprReads.f
  rw [hg]
  simp only [Option.bind_some]
  cases g with
  | true => rfl
  | false =>
    obtain ⟨h1, h2⟩ := hg2 rfl
    have ok : ∀ x ∈ l, 0 ≤ x.f0 ∧ x.f1.size ≤ 1000000 ∧ numOk (ZT.toTok x) := fun x hx => ⟨(wf_tok (hl.2 x hx)).1, by have := h2 x hx; omega, (wf_tok (hl.2 x hx)).2⟩
    have okb : okB l := ⟨by omega, fun x hx => ⟨(ok x hx).1, (ok x hx).2.1, (ok x hx).2.2⟩⟩
    rw [if_neg (by simp), if_pos (by simp; omega), List.nil_append]
    have hp : expr_Parse.f l a = some (ZR.ansP (parseL (l.map ZT.toTok) a)) := by
      unfold expr_Parse.f
      rw [if_pos okb]
      rfl
    rw [hp, ZR.parse_ref l h1 ok a 1003000 (by omega)]
    simp only [Option.bind_some]
    rw [ZR.same_f l (by omega) 1003000 (by omega)]
    simp
end Go.Proofs.YtgihgmniijhfoaaDoor.Pure
