/- What le.Pad and the reference's Pad come to: the bytes with noughts behind them up to a multiple; for at most 20,000 bytes and any multiple. -/
import Derived.Test.YtajmhopefhbeoaaZLe
import Derived.Test.YtajmhopefhbeoaaPx4
import Derived.Test.YtajmhopefhbeoaaPx5
namespace Go.Proofs.Ytajmhopefhbeoaa.Z
open Go.RowKit Go.Proofs.Ytajmhopefhbeoaa.P Go.Proofs.YtajmhopefhbeoaaW.PrintWords Go.Proofs.YtajmhopefhbeoaaW.PrintLast Go.Proofs.YtajmhopefhbeoaaW.PrintMore

/-- How many noughts fill up to a multiple. -/
def padN (len m : Nat) : Nat := (m - len % m) % m
/-- What is filled up, or the error. -/
def padAns (l : List Int) (m : Int) : List Int × Int := if 1 ≤ m ∧ m ≤ 4096 then (l ++ List.replicate (padN l.length m.toNat) 0, 0) else ([], 2)

theorem padN_lt (len m : Nat) (hm : 0 < m) : padN len m < m := Nat.mod_lt _ hm
theorem padN_zero {len m : Nat} (h : len % m = 0) : padN len m = 0 := by
  unfold padN
  rw [h, Nat.sub_zero, Nat.mod_self]
theorem padN_pos {len m : Nat} (hm : 0 < m) (h : len % m ≠ 0) : padN len m = m - len % m := by
  unfold padN
  have := Nat.mod_lt len hm
  exact Nat.mod_eq_of_lt (by omega)
theorem padN_succ {len m : Nat} (hm : 0 < m) (h : len % m ≠ 0) : padN (len + 1) m + 1 = padN len m := by
  have h1 := Nat.mod_lt len hm
  have h2 : (len + 1) % m = (len % m + 1) % m := (Nat.mod_add_mod len m 1).symm
  rw [padN_pos hm h]
  by_cases e : len % m + 1 = m
  · rw [padN_zero (by rw [h2, e, Nat.mod_self])]
    omega
  · have h3 : (len + 1) % m = len % m + 1 := by rw [h2]; exact Nat.mod_eq_of_lt (by omega)
    rw [padN_pos hm (by omega), h3]
    omega
theorem padN_whole (len m : Nat) (hm : 0 < m) : (len + padN len m) % m = 0 := by
  by_cases h : len % m = 0
  · rw [padN_zero h, Nat.add_zero, h]
  · rw [padN_pos hm h, ← Nat.mod_add_mod]
    have := Nat.mod_lt len hm
    rw [show len % m + (m - len % m) = m by omega, Nat.mod_self]
theorem rd_two0 (a b : List Int) : rd_L1 [a, b] 0 = a := rfl
theorem rd_two1 (a b : List Int) : rd_L1 [a, b] 1 = b := rfl
theorem concat_two (a b : List Int) (k : Nat) (hk : 6 ≤ k) (ha : a.length ≤ 100000) (hb : b.length ≤ 100000) :
    slices_Concat_byte_byte.f k [a, b] = some (a ++ b) := by
  obtain ⟨k, rfl⟩ : ∃ m, k = m + 6 := ⟨k - 6, by omega⟩
  have l2 : (([a, b] : List (List Int)).length : Int) = 2 := rfl
  unfold slices_Concat_byte_byte.f
  simp only [slices_Concat_byte_byte.l0, l2]
  rw [if_pos (by decide), if_pos (by decide), if_pos (by decide), rd_two0, Int.zero_add, wrap64_id (by omega) (by omega), if_neg (by omega), show wrap64 (0 + 1) = 1 by decide +kernel,
    if_pos (by decide), if_pos (by decide), if_pos (by decide), rd_two1, wrap64_id (by omega) (by omega), if_neg (by omega), show wrap64 (1 + 1) = 2 by decide +kernel, if_neg (by decide)]
  unfold slices_Grow_byte_byte.f
  rw [if_pos rfl, if_pos (by omega), if_pos (by omega)]
  simp only [Option.bind_some, slices_Concat_byte_byte.l1, l2]
  rw [if_pos (by decide), if_pos (by decide), if_pos (by decide), rd_two0, if_pos (by simp; omega), show wrap64 (0 + 1) = 1 by decide +kernel,
    if_pos (by decide), if_pos (by decide), if_pos (by decide), rd_two1, if_pos (by simp; omega), show wrap64 (1 + 1) = 2 by decide +kernel, if_neg (by decide)]
  rfl
theorem pad_eq (l : List Int) (m : Int) (k : Nat) (hk : 6 ≤ k) (hl : l.length ≤ 20000) (hm : -9223372036854775808 ≤ m ∧ m ≤ 9223372036854775807) : le_Pad.f k l m = some (padAns l m) := by
  unfold le_Pad.f padAns
  by_cases h1 : m < 1
  · rw [if_pos h1, if_neg (by omega)]
  · rw [if_neg h1]
    by_cases h2 : m > 4096
    · rw [if_pos h2, if_neg (by omega)]
    · obtain ⟨n, rfl⟩ : ∃ n : Nat, m = n := ⟨m.toNat, by omega⟩
      have hn : 0 < n := by omega
      have hlt := Nat.mod_lt l.length hn
      have e : Int.tmod (wrap64 ((n : Int) - ((l.length : Int) % (n : Int)))) (n : Int) = (padN l.length n : Nat) := by
        have e1 : ((l.length : Int) % (n : Int)) = ((l.length % n : Nat) : Int) := by omega
        have e2 : ((n : Int) - ((l.length % n : Nat) : Int)) = ((n - l.length % n : Nat) : Int) := by omega
        rw [e1, e2, wrap64_id (by omega) (by omega), Int.tmod_eq_emod_of_nonneg (by omega)]
        unfold padN
        omega
      have hp := padN_lt l.length n hn
      rw [if_neg h2, if_neg (by omega), e, if_pos (by omega), if_pos (by omega), if_pos (by omega)]
      simp only [Int.toNat_natCast]
      rw [concat_two _ _ _ hk (by omega) (by simp; omega)]
      rfl
theorem padded_loop (m : Nat) (hm : 0 < m) (d : Nat) : ∀ (k : Nat) (x : List Int), padN x.length m = d → d < k → x.length + d ≤ 100000 →
    quoinref07_Padded.l0 k (m : Int) x = some (x ++ List.replicate d 0) := by
  induction d with
  | zero =>
    intro k x h hk hx
    obtain ⟨k, rfl⟩ : ∃ m, k = m + 1 := ⟨k - 1, by omega⟩
    have h0 : x.length % m = 0 := by
      by_cases e : x.length % m = 0
      · exact e
      · have := padN_pos hm e
        have := Nat.mod_lt x.length hm
        omega
    have h1 : (x.length : Int) % (m : Int) = 0 := by omega
    simp only [quoinref07_Padded.l0]
    rw [if_neg (by omega), if_pos h1]
    simp
  | succ d ih =>
    intro k x h hk hx
    obtain ⟨k, rfl⟩ : ∃ m, k = m + 1 := ⟨k - 1, by omega⟩
    have h0 : x.length % m ≠ 0 := by
      intro e
      rw [padN_zero e] at h
      cases h
    have h1 : ¬ (x.length : Int) % (m : Int) = 0 := by omega
    simp only [quoinref07_Padded.l0]
    rw [if_neg (by omega), if_neg h1, if_pos (by omega)]
    have := padN_succ hm h0
    rw [ih k (x ++ [0]) (by simp; omega) (by omega) (by simp; omega), List.append_assoc]
    rfl
theorem refpad_eq (l : List Int) (m : Int) (k : Nat) (hk : 5000 ≤ k) (hl : l.length ≤ 20000) : quoinref07_Pad.f k l m = some (padAns l m) := by
  unfold quoinref07_Pad.f padAns
  by_cases h1 : m < 1
  · rw [if_pos h1, if_neg (by omega)]
  · rw [if_neg h1]
    by_cases h2 : m > 4096
    · rw [if_pos h2, if_neg (by omega)]
    · obtain ⟨n, rfl⟩ : ∃ n : Nat, m = n := ⟨m.toNat, by omega⟩
      have hn : 0 < n := by omega
      have hp := padN_lt l.length n hn
      rw [if_neg h2, if_pos (by omega)]
      unfold quoinref07_Padded.f
      rw [if_pos (by simp; omega), List.nil_append, padded_loop n hn _ k l rfl (by omega) (by omega)]
      rfl
theorem padAns_yes {l : List Int} {m : Int} (h : 1 ≤ m ∧ m ≤ 4096) : padAns l m = (l ++ List.replicate (padN l.length m.toNat) 0, 0) := if_pos h
theorem padAns_no {l : List Int} {m : Int} (h : ¬ (1 ≤ m ∧ m ≤ 4096)) : padAns l m = ([], 2) := if_neg h
end Go.Proofs.Ytajmhopefhbeoaa.Z
