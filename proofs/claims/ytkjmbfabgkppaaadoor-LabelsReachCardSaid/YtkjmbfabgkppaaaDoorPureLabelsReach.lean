/- LabelsReach: between an item that asks for a local number and the one that it gets none tells this number. -/
import Derived.Test.YtkjmbfabgkppaaaDoorZBytes
import Derived.Test.YtkjmbfabgkppaaaDoorZLabels
import Derived.Test.YtkjmbfabgkppaaaDoorPx7
namespace Go.Proofs.YtkjmbfabgkppaaaDoor.Pure
open Go.RowKit Go.Proofs.YtkjmbfabgkppaaaDoor.P Go.Proofs.YtkjmbfabgkppaaaDoor.Z Go.Proofs.YtkjmbfabgkppaaaDoorW.PrintWords Go.Proofs.YtkjmbfabgkppaaaDoorW.PrintLast
set_option linter.unusedSimpArgs false
set_option linter.unusedVariables false

theorem wrap_up (i : Nat) (h : i ≤ 2000) : wrap64 ((i : Int) + 1) = ((i + 1 : Nat) : Int) := by unfold wrap64; omega
theorem wrap_dn (i : Nat) (h : i ≤ 2000) : wrap64 ((i : Int) + -1) = (i : Int) - 1 := by unfold wrap64; omega
theorem reach_ahead (l a : List S31) (at_ : Nat) (num : ByteArray) (n : Int) (hl : l.length ≤ 1024) (ha : a.length = l.length) (hat : at_ < l.length)
    (hnum : localB num = true) (hn : n < cnt l l.length num) (hname : (rd_T31 a (at_ : Int)).f3 = nameB num n)
    (ht : ∀ j, j < l.length → (rd_T31 l (j : Int)).f0 = 6 → (rd_T31 l (j : Int)).f3 = num → (rd_T31 a (j : Int)).f3 = nameB num (cnt l j num)) :
    ∀ d i k, l.length - i = d → 2 * d + 2 ≤ k → i ≤ l.length → cnt l i num = n → quoinlaw21_LabelsReach.l0 k l (at_ : Int) true a num 1 (i : Int) = some true := by
  intro d
  induction d with
  | zero =>
    intro i k h1 h2 h3 h4
    have : i = l.length := by omega
    subst this
    omega
  | succ d ih =>
    intro i k h1 h2 h3 h4
    obtain ⟨k, rfl⟩ : ∃ m, k = m + 2 := ⟨k - 2, by omega⟩
    have hw : i ≤ 2000 := by omega
    simp only [quoinlaw21_LabelsReach.l0, quoinlaw21_LabelsReach.j4]
    rw [if_pos (by omega), if_pos (decide_eq_true (by omega)), if_pos (by omega), if_pos (by omega), wrap_up i hw]
    by_cases c1 : (rd_T31 l (i : Int)).f0 = 6
    · rw [if_pos c1]
      by_cases c2 : (rd_T31 l (i : Int)).f3.toList = num.toList
      · rw [if_pos c2, if_pos trivial, if_pos (by omega), if_pos (by omega), if_pos (by omega), ht i (by omega) c1 (ba_ext c2), h4, hname]
        simp
      · rw [if_neg c2]
        refine ih (i + 1) k (by omega) (by omega) (by omega) ?_
        rw [cnt_succ l i (by omega), if_neg (fun e => c2 (by rw [((tells_iff hnum).1 e).2]))]
        exact h4
    · rw [if_neg c1]
      refine ih (i + 1) k (by omega) (by omega) (by omega) ?_
      rw [cnt_succ l i (by omega), if_neg (fun e => c1 ((tells_iff hnum).1 e).1)]
      exact h4
theorem reach_back (l a : List S31) (at_ : Nat) (num : ByteArray) (n : Int) (hl : l.length ≤ 1024) (ha : a.length = l.length) (hat : at_ < l.length)
    (hnum : localB num = true) (hn : 0 ≤ n) (hname : (rd_T31 a (at_ : Int)).f3 = nameB num n)
    (ht : ∀ j, j < l.length → (rd_T31 l (j : Int)).f0 = 6 → (rd_T31 l (j : Int)).f3 = num → (rd_T31 a (j : Int)).f3 = nameB num (cnt l j num)) :
    ∀ i k, 2 * i + 2 ≤ k → i ≤ l.length → cnt l i num = n + 1 → quoinlaw21_LabelsReach.l0 k l (at_ : Int) true a num (-1) ((i : Int) - 1) = some true := by
  intro i
  induction i with
  | zero =>
    intro k h2 h3 h4
    rw [cnt_zero] at h4
    omega
  | succ i ih =>
    intro k h2 h3 h4
    obtain ⟨k, rfl⟩ : ∃ m, k = m + 2 := ⟨k - 2, by omega⟩
    have hi : (((i + 1 : Nat) : Int) - 1) = (i : Int) := by omega
    rw [hi]
    have hw : i ≤ 2000 := by omega
    simp only [quoinlaw21_LabelsReach.l0, quoinlaw21_LabelsReach.j4]
    rw [if_pos (by omega), if_pos (decide_eq_true (by omega)), if_pos (by omega), if_pos (by omega), wrap_dn i hw]
    rw [cnt_succ l i (by omega)] at h4
    by_cases c1 : (rd_T31 l (i : Int)).f0 = 6
    · rw [if_pos c1]
      by_cases c2 : (rd_T31 l (i : Int)).f3.toList = num.toList
      · rw [if_pos ((tells_iff hnum).2 ⟨c1, ba_ext c2⟩)] at h4
        have h5 : cnt l i num = n := by omega
        rw [if_pos c2, if_pos trivial, if_pos (by omega), if_pos (by omega), if_pos (by omega), ht i (by omega) c1 (ba_ext c2), h5, hname]
        simp
      · rw [if_neg c2]
        rw [if_neg (fun e => c2 (by rw [((tells_iff hnum).1 e).2]))] at h4
        exact ih k (by omega) (by omega) h4
    · rw [if_neg c1]
      rw [if_neg (fun e => c1 ((tells_iff hnum).1 e).1)] at h4
      exact ih k (by omega) (by omega) h4
set_option maxHeartbeats 2000000 in
theorem LabelsReach : quoinlaw21_LabelsReach.Pure := by
  intro l at_ hwl hwa
  have hat64 := wf64 hwa
  obtain ⟨b, hg, hb⟩ := great_cases l
  obtain ⟨N, hN⟩ : ∃ N, N = 2 * l.length + 90000 := ⟨_, rfl⟩
  refine ⟨N + 4, ?_⟩
  unfold quoinlaw21_LabelsReach.f
  rw [alive_eq, hg _ (by omega)]
  simp only [Option.bind_some, if_true]
  have hj0 : ∀ k, quoinlaw21_LabelsReach.j0 (k + 1) l at_ true true = some true := fun k => by simp [quoinlaw21_LabelsReach.j0]
  cases b with
  | true =>
    rw [if_pos rfl]
    exact hj0 _
  | false =>
    have hs := hb rfl
    rw [if_neg (by decide)]
    by_cases c1 : at_ < 0
    · rw [if_pos c1]
      exact hj0 _
    · rw [if_neg c1]
      by_cases c2 : at_ ≥ (l.length : Int)
      · rw [decide_eq_true c2]
        exact hj0 _
      · rw [decide_eq_false c2]
        obtain ⟨p, rfl⟩ : ∃ p : Nat, at_ = (p : Int) := ⟨at_.toNat, by omega⟩
        have hp : p < l.length := by omega
        have hx := hs.2 _ (rd_mem l p hp)
        simp only [quoinlaw21_LabelsReach.j0]
        rw [if_neg (by decide), rename_small hs]
        simp only [Option.bind_some]
        rw [if_pos (by omega), if_pos (by omega), asks_eq _ (by omega) _ (by omega)]
        simp only [Option.bind_some]
        have hj1 : ∀ k a' b' c', quoinlaw21_LabelsReach.j1 (k + 1) l (p : Int) true a' b' c' true = some true := fun k a' b' c' => by simp [quoinlaw21_LabelsReach.j1]
        rcases renameF_cases l with ⟨_, e⟩ | ⟨a, e, ha, hl, hone⟩ | ⟨j, _, _, _, e⟩
        · rw [e, if_neg (by decide)]
          exact hj1 _ _ _ _
        · rw [e, if_pos rfl]
          by_cases ca : (cut2 (rd_T31 l (p : Int)).f3).2 = true ∧ localB (cut2 (rd_T31 l (p : Int)).f3).1 = true
          · have hask : askB (rd_T31 l (p : Int)).f3 = ((cut2 (rd_T31 l (p : Int)).f3).1, (cutB (rd_T31 l (p : Int)).f3 98).2, true) := by unfold askB; rw [if_pos ca]
            rw [hask, if_pos rfl]
            by_cases c3 : (rd_T31 l (p : Int)).f0 = 1
            · rw [show ((rd_T31 l (p : Int)).f0 != 1) = false by rw [c3]; rfl]
              have hp1 := hone p hp
              unfold oneB at hp1
              rw [if_neg (by rw [tells_none (by omega)]; exact fun h => h rfl), if_pos c3] at hp1
              unfold turnB at hp1
              rw [if_pos ca] at hp1
              have ht : ∀ j, j < l.length → (rd_T31 l (j : Int)).f0 = 6 → (rd_T31 l (j : Int)).f3 = (cut2 (rd_T31 l (p : Int)).f3).1 → (rd_T31 a (j : Int)).f3 = nameB (cut2 (rd_T31 l (p : Int)).f3).1 (cnt l j (cut2 (rd_T31 l (p : Int)).f3).1) := by
                intro j hj h0 h3
                have h := hone j hj
                unfold oneB at h
                have ht := (tells_iff ca.2).2 ⟨h0, h3⟩
                rw [if_pos (by rw [← ht]; exact (local_nonempty ca.2).1), ← ht] at h
                rw [← Option.some.inj h]
              have hcz := cnt_le l p (cut2 (rd_T31 l (p : Int)).f3).1
              simp only [quoinlaw21_LabelsReach.j1]
              rw [if_neg (by decide)]
              by_cases cb : (cutB (rd_T31 l (p : Int)).f3 98).2 = true
              · rw [if_pos cb] at hp1 ⊢
                split at hp1
                · cases hp1
                · rename_i hne
                  simp only [Option.map_some] at hp1
                  simp only [quoinlaw21_LabelsReach.j2]
                  rw [wrap_dn p (by omega)]
                  refine reach_back l a p _ (cnt l p (cut2 (rd_T31 l (p : Int)).f3).1 - 1) hl ha hp ca.2 (by omega) ?_ ht p _ (by omega) (by omega) (by omega)
                  rw [← Option.some.inj hp1]
              · rw [if_neg cb] at hp1 ⊢
                split at hp1
                · cases hp1
                · rename_i hne
                  simp only [Option.map_some] at hp1
                  simp only [quoinlaw21_LabelsReach.j2]
                  rw [wrap_up p (by omega)]
                  refine reach_ahead l a p _ (cnt l p (cut2 (rd_T31 l (p : Int)).f3).1) hl ha hp ca.2 (by omega) ?_ ht _ (p + 1) _ rfl (by omega) (by omega) ?_
                  · rw [← Option.some.inj hp1]
                  · rw [cnt_succ l p hp, if_neg (fun e => absurd (c3.symm.trans ((tells_iff ca.2).1 e).1) (by decide))]
            · rw [show ((rd_T31 l (p : Int)).f0 != 1) = true by simpa using c3]
              exact hj1 _ _ _ _
          · have hask : askB (rd_T31 l (p : Int)).f3 = (⟨#[]⟩, false, false) := by unfold askB; rw [if_neg ca]
            rw [hask, if_neg (by decide)]
            exact hj1 _ _ _ _
        · rw [e, if_neg (by show ¬ (210 : Int) = 0; decide)]
          exact hj1 _ _ _ _
end Go.Proofs.YtkjmbfabgkppaaaDoor.Pure
