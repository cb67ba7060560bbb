/- What package rela reads; for any bytes, with enough rounds. -/
import Derived.Test.YtdhkmaiidbomdafZRelaAlive
import Derived.Test.YtdhkmaiidbomdafPx3
namespace Go.Proofs.Ytdhkmaiidbomdaf.Z
open Go.RowKit Go.Proofs.Ytdhkmaiidbomdaf.P Go.Proofs.YtdhkmaiidbomdafW.PrintWords Go.Proofs.YtdhkmaiidbomdafW.PrintLast Go.Proofs.YtdhkmaiidbomdafW.PrintMore
set_option linter.unusedSimpArgs false
set_option linter.unusedVariables false
/-- Are these the bytes of a relocation? -/
def relaFits (l : List Int) : Prop := relaOk (relaOff l) (relaKind l) (relaSym l) (relaAdd l) = true ∧ relaBytes (relaOff l) (relaKind l) (relaSym l) (relaAdd l) = l
instance (l : List Int) : Decidable (relaFits l) := inferInstanceAs (Decidable (_ ∧ _))
/-- What is read: the relocation's parts, and the error. -/
def relaReadAns (l : List Int) : Int × Int × Int × Int × Int × Int :=
  if l.length = 24 then (if relaFits l then (0, relaOff l, relaKind l, relaSym l, relaAdd l, 0) else (0, 0, 0, 0, 0, 8)) else (0, 0, 0, 0, 0, 3)
theorem relaKind_u8 (l : List Int) : 0 ≤ relaKind l ∧ relaKind l ≤ 255 := by unfold relaKind; omega
theorem relaread_eq (l : List Int) (hl : AllB l) (k : Nat) (hk : 30 ≤ k) : rela_Read.f k l = some (relaReadAns l) := by
  unfold rela_Read.f relaReadAns
  by_cases h : (l.length : Int) = 24
  · have h24 : l.length = 24 := by omega
    rw [if_pos h, if_pos h24]
    simp only [get_eq l _ _ k (by omega) hl (by omega) (show (-9223372036854775808 : Int) ≤ 8 ∧ (8 : Int) ≤ 9223372036854775807 by decide), get_eq l _ _ k (by omega) hl (by omega) (show (-9223372036854775808 : Int) ≤ 0 ∧ (0 : Int) ≤ 9223372036854775807 by decide),
      get_eq l _ _ k (by omega) hl (by omega) (show (-9223372036854775808 : Int) ≤ 12 ∧ (12 : Int) ≤ 9223372036854775807 by decide), get_eq l _ _ k (by omega) hl (by omega) (show (-9223372036854775808 : Int) ≤ 16 ∧ (16 : Int) ≤ 9223372036854775807 by decide), Option.bind_some]
    have e0 : (getAns l 0 8).1 = relaOff l := rfl
    have e1 : (getAns l 8 4).1 % 256 = relaKind l := rfl
    have e2 : wrap64 ((getAns l 12 4).1 - 1) = relaSym l := rfl
    have e3 : (getAns l 16 8).1 = relaAdd l := rfl
    rw [e0, e1, e2, e3, relawrite_eq _ _ _ _ _ (relaKind_u8 l) k (by omega)]
    simp only [Option.bind_some]
    by_cases ho : relaOk (relaOff l) (relaKind l) (relaSym l) (relaAdd l) = true
    · rw [relaAns, if_pos ho]
      dsimp only
      rw [if_pos rfl]
      by_cases hb : relaBytes (relaOff l) (relaKind l) (relaSym l) (relaAdd l) = l
      · rw [if_pos (show relaFits l from ⟨ho, hb⟩), hb, if_pos rfl]
      · have hn : ¬ ((strOfNums (relaBytes (relaOff l) (relaKind l) (relaSym l) (relaAdd l))).toList = (strOfNums l).toList) := fun h => hb (str_inj (relaBytes_allB _ _ _ _) hl h)
        rw [if_neg (show ¬ relaFits l from fun h => hb h.2), if_neg hn]
    · rw [relaAns, if_neg ho, if_neg (show ¬ relaFits l from fun h => ho h.1), if_neg (by decide)]
  · rw [if_neg h, if_neg (by omega)]
/-- What is written is read. -/
theorem relaread_write {off kd sym add : Int} (hkd : 0 ≤ kd ∧ kd ≤ 255) (h : relaOk off kd sym add = true) : relaReadAns (relaBytes off kd sym add) = (0, off, kd, sym, add, 0) := by
  obtain ⟨a, b, c, d⟩ := rela_parts hkd h
  unfold relaReadAns
  rw [if_pos (relaBytes_length _ _ _ _), if_pos (show relaFits _ by unfold relaFits; rw [a, b, c, d]; exact ⟨h, rfl⟩), a, b, c, d]
end Go.Proofs.Ytdhkmaiidbomdaf.Z
