/- RelaCodes: types, relocations and their bytes are told as is said; for any relocation, sections, number and bytes. -/
import Derived.Test.YtdhkmaiidbomdafZRelaRefCheck
import Derived.Test.YtdhkmaiidbomdafPx10
import Derived.Test.YtdhkmaiidbomdafPx2
namespace Go.Proofs.Ytdhkmaiidbomdaf.Pure
open Go.RowKit Go.Proofs.Ytdhkmaiidbomdaf.P Go.Proofs.YtdhkmaiidbomdafW.PrintWords Go.Proofs.YtdhkmaiidbomdafW.PrintLast Go.Proofs.Ytdhkmaiidbomdaf.Z
set_option linter.unusedSimpArgs false
set_option linter.unusedVariables false
theorem codes_large (l : List S44) (hl : l.length ≤ 100) (d : Nat) : ∀ (k i : Nat), i + d = l.length → d < k → ∃ b, quoinlaw11_large.l0 k l (i : Int) = some b := by
  induction d with
  | zero =>
    intro k i hi hk
    obtain ⟨k, rfl⟩ : ∃ m, k = m + 1 := ⟨k - 1, by omega⟩
    simp only [quoinlaw11_large.l0]
    rw [if_neg (by omega)]
    exact ⟨_, rfl⟩
  | succ d ih =>
    intro k i hi hk
    obtain ⟨k, rfl⟩ : ∃ m, k = m + 1 := ⟨k - 1, by omega⟩
    simp only [quoinlaw11_large.l0]
    rw [if_pos (by omega), if_pos (by omega), wrap64_id (by omega) (by omega)]
    split
    · exact ⟨_, rfl⟩
    · split
      · exact ⟨_, rfl⟩
      · exact ih k (i + 1) (by omega) (by omega)
theorem names_bound : ∀ l : List S44, ∃ M, ∀ s ∈ l, s.f0.size ≤ M
  | [] => ⟨0, fun s hs => by cases hs⟩
  | s :: l => by
    obtain ⟨M, hM⟩ := names_bound l
    refine ⟨M + s.f0.size, fun t ht => ?_⟩
    rcases List.mem_cons.1 ht with rfl | ht
    · omega
    · have := hM t ht
      omega
theorem relacodes_j0 (sec off kd sym add : Int) (l : List S44) (symbols kd2 : Int) (b : List Int) (x : Bool) (hx : x = true ∨ b.length ≤ 10000) (hkd : 0 ≤ kd ∧ kd ≤ 255) (hkd2 : 0 ≤ kd2 ∧ kd2 ≤ 255) (hsec : -9223372036854775808 ≤ sec ∧ sec ≤ 9223372036854775807) (hoff : off ≤ 9223372036854775807) (hadd : -9223372036854775808 ≤ add ∧ add ≤ 9223372036854775807)
    (hl : ∀ s ∈ l, WfSec s) (hb : AllB b) (M : Nat) (hM : ∀ s ∈ l, s.f0.size ≤ M) (k : Nat) (hk : M + 200 ≤ k) :
    quoinlaw11_RelaCodes.j0 k l symbols kd2 b x sec off kd sym add = some true := by
  obtain ⟨k, rfl⟩ : ∃ m, k = m + 1 := ⟨k - 1, by omega⟩
  simp only [quoinlaw11_RelaCodes.j0]
  cases x
  · have h := hx.resolve_left (by simp)
    rw [if_neg (by simp), List.nil_append, if_pos (by simp; omega)]
    simp only [Option.bind_some]
    rw [field_eq hkd2 (by omega), reffield_eq hkd2 (by omega), relawrite_eq _ _ _ _ _ hkd k (by omega), refrelawrite_eq _ _ _ _ _ hkd k (by omega), relaread_eq b hb k (by omega), refrelaread_eq b hb k (by omega),
      relacheck_eq _ _ _ _ _ _ _ hkd hsec hoff hadd hl k (by omega), refrelacheck_eq _ _ _ _ _ _ _ hkd hsec hoff hl M hM k (by omega)]
    simp
  · rw [if_pos rfl]
theorem RelaCodes : quoinlaw11_RelaCodes.Pure := by
  intro sec off kd sym add l symbols kd2 b wsec woff wkd wsym wadd hl _ wkd2 hb
  obtain ⟨M, hM⟩ := names_bound l
  refine ⟨M + 300, ?_⟩
  have hl2 : ∀ s ∈ l, WfSec s := fun s hs => ⟨(hl.2 s hs).1, (hl.2 s hs).2.2.1.1⟩
  have J := fun x hx => relacodes_j0 sec off kd sym add l symbols kd2 b x hx (wfu8 wkd) (wfu8 wkd2) (wf64 wsec) (wf64 woff).2 (wf64 wadd) hl2 (allB_of_wf hb.2) M hM (M + 300) (by omega)
  unfold quoinlaw11_RelaCodes.f
  by_cases h : (l.length : Int) > 20
  · rw [if_pos h]
    exact J _ (.inl rfl)
  · rw [if_neg h]
    by_cases h2 : (b.length : Int) > 10000
    · rw [if_pos h2]
      exact J _ (.inl rfl)
    · obtain ⟨x, hx⟩ := codes_large l (by omega) l.length (M + 300) 0 (by omega) (by omega)
      have hx2 : quoinlaw11_large.f (M + 300) l = some x := hx
      rw [if_neg h2, hx2]
      exact J _ (.inr (by omega))
end Go.Proofs.Ytdhkmaiidbomdaf.Pure
