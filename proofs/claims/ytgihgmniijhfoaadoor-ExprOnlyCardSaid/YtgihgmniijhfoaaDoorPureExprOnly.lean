/- What is read may be, and hangs on what it stands on alone. -/
import Derived.Test.YtgihgmniijhfoaaDoorPx22
import Derived.Test.YtgihgmniijhfoaaDoorZExprUse
import Derived.Test.YtgihgmniijhfoaaDoorZRef15
namespace Go.Proofs.YtgihgmniijhfoaaDoor.Pure
open Go.RowKit Go.Proofs.YtgihgmniijhfoaaDoor.P Go.Proofs.YtgihgmniijhfoaaDoor.Lex Go.Proofs.YtgihgmniijhfoaaDoor.Ex Go.Proofs.YtgihgmniijhfoaaDoor.ZU Go.Proofs.YtgihgmniijhfoaaDoorW.PrintWords Go.Proofs.YtgihgmniijhfoaaDoorW.PrintLast
set_option linter.unusedSimpArgs false
set_option linter.unusedVariables false
theorem only_ok (l : List S41) (a : Int) (ok : okB l) : quoinlaw16_ExprOnly.j0 (2000000 + 1) l a true false = some true := by
  rw [quoinlaw16_ExprOnly.j0, if_neg (by simp)]
  obtain ⟨y, n, e, h⟩ : ∃ y n e, parseL (l.map ZT.toTok) a = (y, n, e) := ⟨_, _, _, rfl⟩
  rw [parse_f l ok a h]
  simp only [Option.bind_some]
  by_cases he : e = 0
  · subst he
    obtain ⟨ha, h1, h2, hc, hn, ht, hb⟩ := parse_only h
    rw [List.length_map] at h2
    obtain ⟨z1, z2, z3⟩ := check_len hc
    rw [if_pos (show ((0 : Nat) : Int) = 0 from rfl), if_pos (show (0 : Int) ≤ (n : Int) by omega), if_pos (show (n : Int) ≤ (l.length : Int) by omega)]
    rw [Int.toNat_natCast, parse_f (l.take n) (ok_take ok n) a (y := y) (n := n) (e := 0) (by rw [List.map_take]; exact ht)]
    simp only [Option.bind_some]
    rw [tokens_x y (by omega) (by omega) (by omega), if_pos hc]
    simp only [Option.bind_some]
    rw [parse_f _ (toks_ok hc hn) 0 (y := y) (n := (toksX y).length) (e := 0) (by rw [toks_back]; exact hb)]
    simp only [Option.bind_some]
    rw [if_pos (show (n : Int) > a by omega), TK.check_f y ⟨by omega, by omega, by omega⟩, if_pos hc]
    simp
  · obtain ⟨h1, h2⟩ := parse_err (l := l.map ZT.toTok) (a := a) (by rw [h]; exact he)
    rw [h] at h1 h2
    simp only at h1 h2
    subst h1 h2
    rw [if_neg (by omega)]
    simp [x0, tl]
theorem ExprOnly : quoinlaw16_ExprOnly.Pure := by
  intro l a hl ha
  refine ⟨2000000 + 1, ?_⟩
  obtain ⟨g, hg, hg2⟩ := ZR.great_f l hl.1 (2000000 + 1) (by omega)
  unfold quoinlaw16_ExprOnly.f
  rw [alive_f, hg]
  simp only [Option.bind_some]
  cases g with
  | true =>
    rw [if_pos rfl, quoinlaw16_ExprOnly.j0]
    rfl
  | false =>
    obtain ⟨h1, h2⟩ := hg2 rfl
    rw [if_neg (by simp)]
    exact only_ok l a (ok_great hl.2 h1 h2)
end Go.Proofs.YtgihgmniijhfoaaDoor.Pure
