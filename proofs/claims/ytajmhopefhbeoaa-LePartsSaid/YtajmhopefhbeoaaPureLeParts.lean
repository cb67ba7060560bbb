/- LeParts: unlike numbers have unlike bytes; a number of fewer bytes begins as that of more; bytes that are padded twice are padded once; for any two numbers, size and multiple, and at most 10,000 bytes. -/
import Derived.Test.YtajmhopefhbeoaaZPad
import Derived.Test.YtajmhopefhbeoaaZAlive
import Derived.Test.YtajmhopefhbeoaaPx7
namespace Go.Proofs.Ytajmhopefhbeoaa.Pure
open Go.RowKit Go.Proofs.Ytajmhopefhbeoaa.P Go.Proofs.YtajmhopefhbeoaaW.PrintWords Go.Proofs.YtajmhopefhbeoaaW.PrintLast Go.Proofs.Ytajmhopefhbeoaa.Z

theorem parts_j1 (l : List Int) (m : Int) (k : Nat) (hk : 11 ≤ k) (hl : l.length ≤ 10000) (hm : -9223372036854775808 ≤ m ∧ m ≤ 9223372036854775807) : quoinlaw07_LeParts.j1 k l m true = some true := by
  obtain ⟨k, rfl⟩ : ∃ m, k = m + 1 := ⟨k - 1, by omega⟩
  simp only [quoinlaw07_LeParts.j1, if_true]
  rw [pad_eq _ _ _ (by omega) (by omega) hm]
  simp only [Option.bind_some]
  by_cases h1 : 1 ≤ m ∧ m ≤ 4096
  · rw [padAns_yes h1]
    obtain ⟨n, rfl⟩ : ∃ n : Nat, m = n := ⟨m.toNat, by omega⟩
    simp only [Int.toNat_natCast, if_true]
    have hp := padN_lt l.length n (by omega)
    have hw := padN_whole l.length n (by omega)
    have hlen : (l ++ List.replicate (padN l.length n) (0 : Int)).length = l.length + padN l.length n := by simp
    rw [pad_eq _ _ _ (by omega) (by omega) hm, padAns_yes h1]
    have h0 : padN (l ++ List.replicate (padN l.length n) (0 : Int)).length (n : Int).toNat = 0 := by
      rw [hlen]; exact padN_zero hw
    rw [h0]
    simp only [Option.bind_some, if_true, List.replicate_zero, List.append_nil]
    simp only [hlen]
    rw [if_neg (by omega), if_pos (by omega), wrap64_id (by omega) (by omega), decide_eq_true (by omega)]
  · rw [padAns_no h1, if_neg (by decide)]
    simp only [List.length_nil]
    by_cases h3 : m < 1
    · rw [if_pos (by decide), if_pos (by decide), if_pos h3]
    · rw [if_pos (by decide), if_pos (by decide), if_neg h3, decide_eq_true (by omega)]
theorem LeParts : quoinlaw07_LeParts.Pure := by
  intro n m s l mu w0 w1 w2 m3 y3 f3 w4
  refine ⟨100, ?_⟩
  have hn := wf64 w0
  have hm := wf64 w1
  have hmu := wf64 w4
  unfold quoinlaw07_LeParts.f
  rw [alive_eq _ (by omega)]
  simp only [Option.bind_some]
  by_cases h2 : (l.length : Int) > 10000
  · rw [if_pos h2]
  · rw [if_neg h2, put_eq _ _ _ (by omega), put_eq _ _ _ (by omega)]
    simp only [Option.bind_some]
    by_cases hp : putOk n s = true
    · rw [putAns_yes hp, if_pos rfl]
      have hs := ((putOk_iff n s).1 hp).1
      have h4 := (sizeOk_iff s).1 hs
      by_cases hq : putOk m s = true
      · rw [putAns_yes hq]
        have hz : (((bytesI (u64 m) s.toNat, (0 : Int)) : List Int × Int).2 == 0) = true := rfl
        rw [hz]
        simp only [quoinlaw07_LeParts.j0, if_true]
        have h8 : putOk n 8 = true := by simp [putOk, sizeOk]
        rw [put_eq _ _ _ (by omega), putAns_yes h8]
        simp only [Option.bind_some, if_true]
        have hiff := str_iff (bytesI_allB (u64 n) s.toNat) (bytesI_allB (u64 m) s.toNat)
        have hlen : (((bytesI (u64 n) (8 : Int).toNat, (0 : Int)) : List Int × Int).1.length : Int) = 8 := by simp [bytesI_length]
        have htake : (bytesI (u64 n) (8 : Int).toNat).take s.toNat = bytesI (u64 n) s.toNat := bytesI_take _ _ _ (by omega)
        by_cases e : n = m
        · subst e
          simp only [if_true]
          rw [if_neg (by omega), hlen, if_neg (by omega), if_pos (by omega), if_pos (by omega), htake]
          simp only [if_true]
          exact parts_j1 l mu 99 (by omega) (by omega) hmu
        · have hne : ¬ (strOfNums (bytesI (u64 n) s.toNat)).toList = (strOfNums (bytesI (u64 m) s.toNat)).toList := by
            intro h
            apply e
            have h1 := bytesI_eq_iff.1 (hiff.1 h)
            have hn2 := ((putOk_iff n s).1 hp).2
            have hm2 := ((putOk_iff m s).1 hq).2
            rcases h4 with rfl | rfl | rfl | rfl <;> simp only [Int.reduceToNat, Nat.reduceMul, Int.reducePow] at h1 hn2 hm2 <;> unfold u64 at h1 <;> omega
          rw [if_neg hne, if_neg e, if_neg (by omega), hlen, if_neg (by omega), if_pos (by omega), if_pos (by omega), htake]
          simp only [if_true]
          exact parts_j1 l mu 99 (by omega) (by omega) hmu
      · rw [putAns_no hq, show ((([], 2) : List Int × Int).2 == 0) = false by decide]
        simp only [quoinlaw07_LeParts.j0, Bool.false_eq_true, if_false]
        exact parts_j1 l mu 99 (by omega) (by omega) hmu
    · rw [putAns_no hp, if_neg (by decide)]
      simp only [quoinlaw07_LeParts.j0, Bool.false_eq_true, if_false]
      exact parts_j1 l mu 99 (by omega) (by omega) hmu
end Go.Proofs.Ytajmhopefhbeoaa.Pure
