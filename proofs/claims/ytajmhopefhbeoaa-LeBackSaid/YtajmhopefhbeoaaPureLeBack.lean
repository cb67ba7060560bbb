/- LeBack: what is put is got, wherever it stands, and what is got is put as just these bytes; for any number, size, bytes ahead and behind of at most 10,000 bytes, and place. -/
import Derived.Test.YtajmhopefhbeoaaZLe
import Derived.Test.YtajmhopefhbeoaaPx2
namespace Go.Proofs.Ytajmhopefhbeoaa.Pure
open Go.RowKit Go.Proofs.Ytajmhopefhbeoaa.P Go.Proofs.YtajmhopefhbeoaaW.PrintWords Go.Proofs.YtajmhopefhbeoaaW.PrintLast Go.Proofs.Ytajmhopefhbeoaa.Z

theorem alive_eq (k : Nat) (hk : 10 ≤ k) : quoinlaw07_alive.f k = some true := by
  unfold quoinlaw07_alive.f
  rw [put_eq _ _ _ hk]
  have h1 : putAns 258 2 = ([2, 1], 0) := by decide +kernel
  rw [h1]
  simp only [Option.bind_some]
  rw [get_eq _ _ _ _ hk (by unfold AllB; decide) (by decide) (by decide)]
  have h2 : getAns [2, 1] 0 2 = (258, 0) := by decide +kernel
  rw [h2]
  decide +kernel
theorem back_j1 (s : Int) (l : List Int) (at_ : Int) (k : Nat) (hk : 11 ≤ k) (hl : AllB l) (hlen : l.length ≤ 10000)
    (ha : -9223372036854775808 ≤ at_ ∧ at_ ≤ 9223372036854775807) : quoinlaw07_LeBack.j1 k s l at_ true = some true := by
  obtain ⟨k, rfl⟩ : ∃ m, k = m + 1 := ⟨k - 1, by omega⟩
  simp only [quoinlaw07_LeBack.j1]
  rw [get_eq _ _ _ _ (by omega) hl (by omega) ha]
  simp only [Option.bind_some]
  by_cases h : (getAns l at_ s).2 = 0
  · obtain ⟨hs, h0, h1⟩ := getAns_yes h
    have h4 := (sizeOk_iff s).1 hs
    rw [if_pos h, put_eq _ _ _ (by omega), put_get hl hs h0 h1]
    simp only [Option.bind_some, if_true]
    rw [if_pos h0, if_pos (by simp; omega), wrap64_id (by omega) (by omega), if_pos h1, if_pos h0, if_pos (by omega)]
    have e : (l.take (at_ + s).toNat).drop at_.toNat = (l.drop at_.toNat).take s.toNat := by
      rw [List.drop_take]
      congr 1
      omega
    rw [e]
    simp
  · rw [if_neg h, getAns_no h]
    rfl
theorem LeBack : quoinlaw07_LeBack.Pure := by
  intro n s l2 l3 at_ w0 w1 m2 y2 f2 m3 y3 f3 w4
  refine ⟨20, ?_⟩
  have hn := wf64 w0
  have ha := wf64 w4
  have b2 := allB_of_wf f2
  have b3 := allB_of_wf f3
  unfold quoinlaw07_LeBack.f
  rw [alive_eq _ (by omega)]
  simp only [Option.bind_some]
  by_cases h2 : (l2.length : Int) > 10000
  · rw [if_pos h2]
    simp only [quoinlaw07_LeBack.j0, if_true]
  · rw [if_neg h2]
    by_cases h3 : (l3.length : Int) > 10000
    · rw [decide_eq_true h3]
      simp only [quoinlaw07_LeBack.j0, if_true]
    · rw [decide_eq_false h3]
      simp only [quoinlaw07_LeBack.j0, Bool.false_eq_true, if_false]
      rw [put_eq _ _ _ (by omega)]
      simp only [Option.bind_some]
      by_cases hp : putOk n s = true
      · have h4 := (sizeOk_iff s).1 ((putOk_iff n s).1 hp).1
        rw [putAns_yes hp]
        have hb := bytesI_allB (u64 n) s.toNat
        have hbl := bytesI_length (u64 n) s.toNat
        rw [if_pos rfl, if_pos (by simp; omega), if_pos (by simp; omega), if_pos (by simp; omega), List.nil_append,
          get_eq _ _ _ _ (by omega) (allB_append (allB_append b2 hb) b3) (by simp; omega) (by omega), get_put l2 l3 hp hn.1 hn.2]
        simp only [Option.bind_some, if_true]
        rw [if_pos (by rw [hbl]; omega)]
        exact back_j1 s l3 at_ 19 (by omega) b3 (by omega) ha
      · rw [putAns_no hp, if_neg (by decide)]
        exact back_j1 s l3 at_ 19 (by omega) b3 (by omega) ha
end Go.Proofs.Ytajmhopefhbeoaa.Pure
