/- LePads: what is filled up begins with what was there, has a length that is a multiple, and fewer noughts than that; for at most 10,000 bytes and any multiple. -/
import Derived.Test.YtajmhopefhbeoaaZPad
import Derived.Test.YtajmhopefhbeoaaZAlive
import Derived.Test.YtajmhopefhbeoaaPx6
namespace Go.Proofs.Ytajmhopefhbeoaa.Pure
open Go.RowKit Go.Proofs.Ytajmhopefhbeoaa.P Go.Proofs.YtajmhopefhbeoaaW.PrintWords Go.Proofs.YtajmhopefhbeoaaW.PrintLast Go.Proofs.Ytajmhopefhbeoaa.Z

theorem rd_zeros (l : List Int) (z : Nat) (i : Int) (h0 : (l.length : Int) ≤ i) : rd (l ++ List.replicate z 0) i = 0 := by
  unfold rd
  rw [List.getD_eq_getElem?_getD, List.getElem?_append_right (by omega), List.getElem?_replicate]
  split <;> rfl
theorem pads_loop (l : List Int) (z : Nat) (d : Nat) : ∀ (k : Nat) (i : Int), (l.length : Int) ≤ i → i + d = (l.length + z : Nat) → l.length + z ≤ 100000 → d < k →
    quoinlaw07_LePads.l0 k true (l ++ List.replicate z 0) i = some true := by
  induction d with
  | zero =>
    intro k i h0 h1 h2 hk
    obtain ⟨k, rfl⟩ : ∃ m, k = m + 1 := ⟨k - 1, by omega⟩
    simp only [quoinlaw07_LePads.l0]
    rw [if_neg (by simp; omega)]
  | succ d ih =>
    intro k i h0 h1 h2 hk
    obtain ⟨k, rfl⟩ : ∃ m, k = m + 1 := ⟨k - 1, by omega⟩
    simp only [quoinlaw07_LePads.l0]
    rw [if_pos (by simp; omega), if_pos (by omega), if_pos (rd_zeros l z i h0), wrap64_id (by omega) (by omega)]
    exact ih k (i + 1) (by omega) (by omega) h2 (by omega)
theorem LePads : quoinlaw07_LePads.Pure := by
  intro l m m0 y0 f0 w1
  refine ⟨30000, ?_⟩
  have hm := wf64 w1
  unfold quoinlaw07_LePads.f
  rw [alive_eq _ (by omega)]
  simp only [Option.bind_some]
  by_cases h2 : (l.length : Int) > 10000
  · rw [if_pos h2]
  · rw [if_neg h2, pad_eq _ _ _ (by omega) (by omega) hm]
    simp only [Option.bind_some, if_true]
    by_cases h1 : 1 ≤ m ∧ m ≤ 4096
    · rw [padAns_yes h1]
      obtain ⟨n, rfl⟩ : ∃ n : Nat, m = n := ⟨m.toNat, by omega⟩
      simp only [Int.toNat_natCast, if_true]
      have hp := padN_lt l.length n (by omega)
      have hw := padN_whole l.length n (by omega)
      have e : ((l ++ List.replicate (padN l.length n) (0 : Int)).length : Int) = ((l.length + padN l.length n : Nat) : Int) := by simp
      rw [e, if_neg (by omega), wrap64_id (by omega) (by omega), if_neg (by omega), if_neg (by omega), if_pos (by omega), if_pos (by omega), if_pos (by omega)]
      have ht : (l ++ List.replicate (padN l.length n) (0 : Int)).take (l.length : Nat) = l := List.take_left
      rw [ht, show ((strOfNums l).toList != (strOfNums l).toList) = false by simp]
      simp only [quoinlaw07_LePads.j0, Bool.false_eq_true, if_false]
      exact pads_loop l _ (padN l.length n) 29999 _ (by omega) (by omega) (by omega) (by omega)
    · rw [padAns_no h1, if_neg (by decide), if_pos (by decide)]
      by_cases h3 : m < 1
      · rw [if_pos h3]
      · rw [if_neg h3, decide_eq_true (by omega)]
end Go.Proofs.Ytajmhopefhbeoaa.Pure
