/- SectHeads: heads are written and read as is said; for any numbers and bytes. -/
import Derived.Test.YtdhkmaiidbomdabZHeadRef
import Derived.Test.YtdhkmaiidbomdabPx6
namespace Go.Proofs.Ytdhkmaiidbomdab.Pure
open Go.RowKit Go.Proofs.Ytdhkmaiidbomdab.P Go.Proofs.YtdhkmaiidbomdabW.PrintWords Go.Proofs.YtdhkmaiidbomdabW.PrintLast Go.Proofs.Ytdhkmaiidbomdab.Z
set_option linter.unusedSimpArgs false
set_option linter.unusedVariables false
theorem SectHeads : quoinlaw09_SectHeads.Pure := by
  intro h0 h1 h2 h3 h4 h5 h6 h7 h8 h9 l _ _ _ _ _ _ _ _ _ _ hl
  refine ⟨100, ?_⟩
  have hL := allB_of_wf hl.2
  unfold quoinlaw09_SectHeads.f
  by_cases h : (l.length : Int) > 10000
  · rw [if_pos h]
  · rw [if_neg h, List.nil_append, if_pos (by simp; omega)]
    simp only [Option.bind_some]
    rw [headwrite_eq _ _ _ _ _ _ _ _ _ _ _ (by omega), refheadwrite_eq _ _ _ _ _ _ _ _ _ _ _ (by omega), headread_eq l hL _ (by omega), refheadread_eq l hL _ (by omega)]
    simp
end Go.Proofs.Ytdhkmaiidbomdab.Pure
