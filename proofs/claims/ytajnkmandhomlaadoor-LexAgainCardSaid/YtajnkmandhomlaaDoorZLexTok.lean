/- What the laws of a line's words say of the printed functions: in plain words. -/
import Derived.Test.YtajnkmandhomlaaDoorPx3
namespace Go.Proofs.YtajnkmandhomlaaDoor.Z
open Go.RowKit Go.Proofs.YtajnkmandhomlaaDoor.P Go.Proofs.YtajnkmandhomlaaDoor.Lex Go.Proofs.YtajnkmandhomlaaDoorW.PrintWords Go.Proofs.YtajnkmandhomlaaDoorW.PrintLast
set_option linter.unusedSimpArgs false
set_option linter.unusedVariables false

theorem tok_f (a : ByteArray) (h : a.size ≤ 1000000000) : lex_Tokens.f a = some ((tokensL a.data.toList).1.map toS, (((tokensL a.data.toList).2 : Nat) : Int)) := if_pos h
theorem alive_f : quoinlaw15_alive.f 30 = some true := by decide +kernel
theorem alive_k (k : Nat) (hk : 30 ≤ k) : quoinlaw15_alive.f k = some true := by
  obtain ⟨d, rfl⟩ : ∃ d, k = 30 + d := ⟨k - 30, by omega⟩
  induction d with
  | zero => exact alive_f
  | succ d ih => exact quoinlaw15_alive.mono (30 + d) _ (ih (by omega))
theorem tok_same (x : S23) : ¬ ((!(x.f0 == x.f0) || (!(x.f1.toList == x.f1.toList) || !(x.f2 == x.f2))) = true) := by simp
theorem rd_left (x y : List S23) (i : Nat) (h : i < x.length) : rd_T23 (x ++ y) (i : Int) = rd_T23 x (i : Int) := by
  simp [rd_T23, List.getD, List.getElem?_append_left h]
theorem rd_right (x y : List S23) (i : Nat) (h : x.length ≤ i) : rd_T23 (x ++ y) (i : Int) = rd_T23 y ((i - x.length : Nat) : Int) := by
  simp [rd_T23, List.getD, List.getElem?_append_right h]
theorem wrap_up {i : Nat} (h : i < 9223372036854775807) : wrap64 ((i : Int) + 1) = ((i + 1 : Nat) : Int) := by unfold wrap64; omega
theorem map_len (l : List Tok) : (l.map toS).length = l.length := List.length_map ..
theorem size_len (s : ByteArray) : s.data.toList.length = s.size := by rw [Array.length_toList]; rfl
end Go.Proofs.YtajnkmandhomlaaDoor.Z
