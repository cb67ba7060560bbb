/- LabelsOnce: no two items tell one local number's name, no field asks for one, and renaming twice is renaming once. -/
import Derived.Test.YtkjmbfabgkppaaaDoorZLabelsTwice
import Derived.Test.YtkjmbfabgkppaaaDoorPx6
import Derived.Test.YtkjmbfabgkppaaaDoorPx5
namespace Go.Proofs.YtkjmbfabgkppaaaDoor.Pure
open Go.RowKit Go.Proofs.YtkjmbfabgkppaaaDoor.P Go.Proofs.YtkjmbfabgkppaaaDoor.Z Go.Proofs.YtkjmbfabgkppaaaDoorW.PrintWords Go.Proofs.YtkjmbfabgkppaaaDoorW.PrintLast
set_option linter.unusedSimpArgs false
set_option linter.unusedVariables false

theorem wrap_up (i : Nat) (h : i ≤ 2000) : wrap64 ((i : Int) + 1) = ((i + 1 : Nat) : Int) := by unfold wrap64; omega
theorem same_refl (a : List S31) (hl : a.length ≤ 1024) : ∀ d i k, a.length - i = d → d < k → i ≤ a.length → quoinref21_Same.l0 k a a (i : Int) = some true := by
  intro d
  induction d with
  | zero =>
    intro i k h1 h2 h3
    obtain ⟨k, rfl⟩ : ∃ m, k = m + 1 := ⟨k - 1, by omega⟩
    simp only [quoinref21_Same.l0, if_true]
    rw [if_neg (by omega)]
  | succ d ih =>
    intro i k h1 h2 h3
    obtain ⟨k, rfl⟩ : ∃ m, k = m + 1 := ⟨k - 1, by omega⟩
    simp only [quoinref21_Same.l0, if_true]
    rw [if_pos (by omega), if_pos (by omega), if_pos (by omega), wrap_up i (by omega)]
    exact ih (i + 1) k (by omega) (by omega) (by omega)
theorem once_l1 (l a : List S31) (hl : l.length ≤ 1024) (ha : a.length = l.length) (N i : Nat) (hi : i < l.length)
    (hun : ∀ p, p < i → (rd_T31 l (p : Int)).f0 = 6 → (rd_T31 l (p : Int)).f3 ≠ (rd_T31 a (p : Int)).f3 → (rd_T31 a (p : Int)).f3 ≠ (rd_T31 a (i : Int)).f3)
    (hnext : ∀ k, N ≤ k → quoinlaw21_LabelsOnce.l0 k l true a ((i + 1 : Nat) : Int) = some true) :
    ∀ e j k, i - j = e → e + 1 + N ≤ k → j ≤ i → quoinlaw21_LabelsOnce.l1 k l true a (i : Int) (j : Int) = some true := by
  intro e
  induction e with
  | zero =>
    intro j k h1 h2 h3
    obtain ⟨k, rfl⟩ : ∃ m, k = m + 1 := ⟨k - 1, by omega⟩
    simp only [quoinlaw21_LabelsOnce.l1]
    rw [if_neg (by omega), wrap_up i (by omega)]
    exact hnext k (by omega)
  | succ e ih =>
    intro j k h1 h2 h3
    obtain ⟨k, rfl⟩ : ∃ m, k = m + 1 := ⟨k - 1, by omega⟩
    simp only [quoinlaw21_LabelsOnce.l1]
    have hn := ih (j + 1) k (by omega) (by omega) (by omega)
    rw [if_pos (by omega), if_pos (by omega), if_pos (by omega), wrap_up j (by omega), hn]
    by_cases c1 : (rd_T31 l (j : Int)).f0 = 6
    · rw [if_pos c1, if_pos (by omega)]
      by_cases c2 : (rd_T31 l (j : Int)).f3.toList = (rd_T31 a (j : Int)).f3.toList
      · rw [if_pos c2]
      · rw [if_neg c2, if_pos (by omega), if_pos (by omega), if_neg (fun e => hun j (by omega) c1 (fun e' => c2 (by rw [e'])) (ba_ext e))]
    · rw [if_neg c1]
set_option maxRecDepth 100000 in
theorem once_l0 (M : Nat) (hM : M = 90000) (l a : List S31) (hl : l.length ≤ 1024) (ha : a.length = l.length)
    (hsz : ∀ p, p < l.length → (rd_T31 a (p : Int)).f3.size ≤ 80030)
    (hst : ∀ p, p < l.length → (rd_T31 a (p : Int)).f0 = 1 ∨ (rd_T31 a (p : Int)).f0 = 3 → Still (rd_T31 a (p : Int)).f3)
    (hun : ∀ p q, p < q → q < l.length → (rd_T31 l (p : Int)).f0 = 6 → (rd_T31 l (q : Int)).f0 = 6 → (rd_T31 l (p : Int)).f3 ≠ (rd_T31 a (p : Int)).f3 → (rd_T31 l (q : Int)).f3 ≠ (rd_T31 a (q : Int)).f3 → (rd_T31 a (p : Int)).f3 ≠ (rd_T31 a (q : Int)).f3) :
    ∀ d i k, l.length - i = d → d * 1040 + M ≤ k → i ≤ l.length → quoinlaw21_LabelsOnce.l0 k l true a (i : Int) = some true := by
  intro d
  induction d with
  | zero =>
    intro i k h1 h2 h3
    obtain ⟨k, rfl⟩ : ∃ m, k = m + 1 := ⟨k - 1, by omega⟩
    simp only [quoinlaw21_LabelsOnce.l0]
    rw [if_neg (by omega)]
  | succ d ih =>
    intro i k h1 h2 h3
    obtain ⟨k, rfl⟩ : ∃ m, k = m + 4 := ⟨k - 4, by omega⟩
    obtain ⟨Q, hQ⟩ : ∃ Q, Q = d * 1040 + M := ⟨_, rfl⟩
    have hnext : ∀ k', Q ≤ k' → quoinlaw21_LabelsOnce.l0 k' l true a ((i + 1 : Nat) : Int) = some true := fun k' hk' => ih (i + 1) k' (by omega) (by omega) (by omega)
    have j3ok : quoinlaw21_LabelsOnce.j3 (k + 2) l true a (i : Int) = some true := by
      simp only [quoinlaw21_LabelsOnce.j3]
      have j4t : quoinlaw21_LabelsOnce.j4 (k + 1) l true a (i : Int) true = some true := by
        simp only [quoinlaw21_LabelsOnce.j4, if_true]
        rw [wrap_up i (by omega)]
        exact hnext k (by omega)
      rw [if_pos (by omega), if_pos (by omega)]
      by_cases c1 : (rd_T31 l (i : Int)).f0 = 6
      · rw [if_pos c1, if_pos (by omega)]
        by_cases c2 : (rd_T31 l (i : Int)).f3 = (rd_T31 a (i : Int)).f3
        · rw [c2, show ((rd_T31 a (i : Int)).f3.toList == (rd_T31 a (i : Int)).f3.toList) = true from beq_iff_eq.2 rfl]
          exact j4t
        · rw [show ((rd_T31 l (i : Int)).f3.toList == (rd_T31 a (i : Int)).f3.toList) = false from beq_eq_false_iff_ne.2 (fun e => c2 (ba_ext e))]
          simp only [quoinlaw21_LabelsOnce.j4]
          rw [if_neg (by decide)]
          exact once_l1 l a hl ha Q i (by omega) (fun p hp h6 hne => hun p i hp (by omega) h6 c1 hne c2) hnext i 0 k (by omega) (by omega) (by omega)
      · rw [if_neg c1]
        exact j4t
    have j2f : quoinlaw21_LabelsOnce.j2 (k + 3) l true a (i : Int) false = some true := by
      simp only [quoinlaw21_LabelsOnce.j2]
      rw [if_neg (by decide)]
      exact j3ok
    have j2t : ((rd_T31 a (i : Int)).f0 = 1 ∨ (rd_T31 a (i : Int)).f0 = 3) → quoinlaw21_LabelsOnce.j2 (k + 3) l true a (i : Int) true = some true := by
      intro h
      simp only [quoinlaw21_LabelsOnce.j2, if_true]
      have hz := hsz i (by omega)
      rw [if_pos (by omega), if_pos (by omega), asks_eq _ (by omega) _ (by omega), ask_still (hst i (by omega) h)]
      simp only [Option.bind_some]
      rw [if_neg (by decide)]
      exact j3ok
    simp only [quoinlaw21_LabelsOnce.l0]
    rw [if_pos (by omega), if_pos (by omega), if_pos (by omega)]
    by_cases c1 : (rd_T31 a (i : Int)).f0 = 1
    · rw [if_pos c1]
      exact j2t (.inl c1)
    · rw [if_neg c1]
      by_cases c3 : (rd_T31 a (i : Int)).f0 = 3
      · rw [show ((rd_T31 a (i : Int)).f0 == 3) = true from beq_iff_eq.2 c3]
        exact j2t (.inr c3)
      · rw [show ((rd_T31 a (i : Int)).f0 == 3) = false from beq_eq_false_iff_ne.2 c3]
        exact j2f
theorem LabelsOnce : quoinlaw21_LabelsOnce.Pure := by
  intro l hwl
  obtain ⟨b, hg, hb⟩ := great_cases l
  obtain ⟨N, hN⟩ : ∃ N, N = l.length * 1040 + 90000 := ⟨_, rfl⟩
  refine ⟨N + 1, ?_⟩
  unfold quoinlaw21_LabelsOnce.f
  rw [alive_eq, hg _ (by omega)]
  simp only [Option.bind_some, if_true]
  cases b with
  | true => rfl
  | false =>
    have hs := hb rfl
    rw [if_neg (by decide), rename_small hs]
    simp only [Option.bind_some]
    rcases renameF_cases l with ⟨_, e⟩ | ⟨a, e, ha, hl, hone⟩ | ⟨j, hj, _, _, e⟩
    · rw [e]
      rfl
    · rw [e]
      have h2 := rename_twice hs hl ha hone
      have hd := fun j (hj : j < l.length) => one_done (by omega) (hs.2 _ (rd_mem l j hj)).2 (hone j hj)
      have hsame : quoinref21_Same.f (N + 1) a a = some true := by
        unfold quoinref21_Same.f
        rw [if_pos rfl]
        exact same_refl a (by omega) a.length 0 (N + 1) (by omega) (by omega) (by omega)
      simp only [if_true]
      rw [h2]
      simp only [Option.bind_some, if_true]
      rw [if_pos (by omega), hsame]
      simp only [Option.bind_some, quoinlaw21_LabelsOnce.j0]
      rw [if_neg (by decide)]
      exact once_l0 90000 rfl l a hl ha (fun p hp => (hd p hp).2.2.2.2.2.1) (fun p hp => (hd p hp).2.2.2.2.2.2.2.2.1) (fun p q hpq hq h6 g6 hne gne => rename_unlike hs hl hone hpq hq h6 g6 hne gne) l.length 0 N (by omega) (by omega) (by omega)
    · rw [e, if_neg (by show ¬ (210 : Int) = 0; decide)]
      show (if (0 : Int) = 0 then (if (210 : Int) = 4 then some true else some (decide ((j : Int) < (l.length : Int)))) else none) = some true
      rw [if_pos rfl, if_neg (by decide), decide_eq_true (by omega)]
end Go.Proofs.YtkjmbfabgkppaaaDoor.Pure
