/- LeCodes: numbers are put, got, and bytes filled up, as the document says; for any number, size, place and multiple, and at most 10,000 bytes. -/
import Derived.Test.YtajmhopefhbeoaaZPad
import Derived.Test.YtajmhopefhbeoaaZLeRef
import Derived.Test.YtajmhopefhbeoaaPx5
namespace Go.Proofs.Ytajmhopefhbeoaa.Pure
open Go.RowKit Go.Proofs.Ytajmhopefhbeoaa.P Go.Proofs.YtajmhopefhbeoaaW.PrintWords Go.Proofs.YtajmhopefhbeoaaW.PrintLast Go.Proofs.Ytajmhopefhbeoaa.Z

theorem codes_loop (x2 x11 : List Int) (h : x11 = x2) (d : Nat) : ∀ (k : Nat) (u : List Int) (i : Int), 0 ≤ i → i + d = u.length → u.length ≤ 100000 → d < k →
    quoinlaw07_LeCodes.l0 k x2 x11 u i = some true := by
  induction d with
  | zero =>
    intro k u i h0 h1 h2 hk
    obtain ⟨k, rfl⟩ : ∃ m, k = m + 1 := ⟨k - 1, by omega⟩
    simp only [quoinlaw07_LeCodes.l0]
    rw [if_neg (by omega), h]
    simp
  | succ d ih =>
    intro k u i h0 h1 h2 hk
    obtain ⟨k, rfl⟩ : ∃ m, k = m + 1 := ⟨k - 1, by omega⟩
    simp only [quoinlaw07_LeCodes.l0]
    rw [if_pos (by omega), if_pos h0, wrap64_id (by omega) (by omega)]
    exact ih k _ (i + 1) (by omega) (by simp; omega) (by simpa using h2) (by omega)
theorem LeCodes : quoinlaw07_LeCodes.Pure := by
  intro n s l at_ m w0 w1 m2 y2 f2 w3 w4
  refine ⟨30000, ?_⟩
  have ha := wf64 w3
  have hm := wf64 w4
  have b2 := allB_of_wf f2
  unfold quoinlaw07_LeCodes.f
  by_cases h2 : (l.length : Int) > 10000
  · rw [if_pos h2]
  · rw [if_neg h2, if_pos (by simp; omega), List.nil_append]
    simp only [Option.bind_some]
    rw [put_eq _ _ _ (by omega), refput_eq _ _ _ (by omega), get_eq _ _ _ _ (by omega) b2 (by omega) ha, refget_eq _ _ _ _ (by omega) b2 (by omega) ha, pad_eq _ _ _ (by omega) (by omega) hm, refpad_eq _ _ _ (by omega) (by omega)]
    simp only [Option.bind_some, if_true]
    rw [show ((padAns l m).2 != (padAns l m).2) = false by simp]
    simp only [quoinlaw07_LeCodes.j0, Bool.false_eq_true, if_false]
    have hlen : (padAns l m).1.length ≤ 20000 := by
      unfold padAns
      split
      · have := padN_lt l.length m.toNat (by omega)
        simp
        omega
      · simp
    exact codes_loop l l rfl (padAns l m).1.length 29999 _ 0 (by omega) (by omega) (by omega) (by omega)
end Go.Proofs.Ytajmhopefhbeoaa.Pure
