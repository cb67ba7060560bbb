/- ExpandSame: whether two lists of items are the same is told alike; for any two lists. -/
import Derived.Test.YtdhkmaiidbomdaaZItems
import Derived.Test.YtdhkmaiidbomdaaPx3
import Derived.Test.YtdhkmaiidbomdaaPx2
import Derived.Test.YtdhkmaiidbomdaaPx1
namespace Go.Proofs.Ytdhkmaiidbomdaa.Pure
open Go.RowKit Go.Proofs.Ytdhkmaiidbomdaa.P Go.Proofs.YtdhkmaiidbomdaaW.PrintWords Go.Proofs.YtdhkmaiidbomdaaW.PrintLast Go.Proofs.Ytdhkmaiidbomdaa.Z
set_option linter.unusedSimpArgs false
set_option linter.unusedVariables false
abbrev It := S27
def z : It := z27
noncomputable instance itDec : DecidableEq It := fun a b => Classical.propDecidable (a = b)
theorem same_one (x y : It) (hx : wfS27 x) (hy : wfS27 y) (k : Nat) (hk : x.f1.length < k) :
    expand_Same_1.f k x.f0 x.f1 x.f2 x.f3 x.f4 x.f5 x.f6 y.f0 y.f1 y.f2 y.f3 y.f4 y.f5 y.f6 = some (decide (x = y)) := by
  obtain ⟨a0, a1, a2, a3, a4, a5, a6⟩ := x
  obtain ⟨b0, b1, b2, b3, b4, b5, b6⟩ := y
  simp only at hk
  unfold expand_Same_1.f
  rw [equal_eq a1 b1 hx.2.1.1 k hk]
  simp only [Option.bind_some, toList_inj, S27.mk.injEq]
  by_cases h0 : a0 = b0 <;> by_cases h1 : a1 = b1 <;> by_cases h2 : a2 = b2 <;> by_cases h3 : a3 = b3 <;> by_cases h4 : a4 = b4 <;> by_cases h5 : a5 = b5 <;> by_cases h6 : a6 = b6 <;> simp [h0, h1, h2, h3, h4, h5, h6]
theorem rdz (l : List It) (i : Nat) : l.getD i z = rd_T27 l (i : Int) := by simp [rd_T27, z]
theorem wf_at {l : List It} (h : ∀ x ∈ l, wfS27 x) {i : Nat} (hi : i < l.length) : l.getD i z ∈ l := by
  rw [List.getD, List.getElem?_eq_getElem hi]
  exact List.getElem_mem hi
theorem func_l (a b : List It) (ha : ∀ x ∈ a, wfS27 x) (hb : ∀ x ∈ b, wfS27 x) (hl : a.length = b.length) (hm : a.length ≤ maxLen) (K : Nat) (hK : ∀ x ∈ a, x.f1.length < K) : ∀ d i k, a.length - i = d → d + K < k → i ≤ a.length →
    slices_EqualFunc_by_expand_Same_1.l0 k b a (a.length : Int) (i : Int) = some (decide (a.drop i = b.drop i)) := by
  intro d
  induction d with
  | zero =>
    intro i k h1 h2 h3
    obtain ⟨k, rfl⟩ : ∃ m, k = m + 1 := ⟨k - 1, by omega⟩
    simp only [slices_EqualFunc_by_expand_Same_1.l0]
    rw [if_neg (by omega), List.drop_eq_nil_of_le (by omega), List.drop_eq_nil_of_le (by omega)]
    simp
  | succ d ih =>
    intro i k h1 h2 h3
    obtain ⟨k, rfl⟩ : ∃ m, k = m + 1 := ⟨k - 1, by omega⟩
    have hA := wf_at ha (i := i) (by omega)
    have hB := wf_at hb (i := i) (by omega)
    rw [rdz] at hA hB
    simp only [slices_EqualFunc_by_expand_Same_1.l0]
    rw [if_pos (by omega), if_pos (by omega), if_pos (by omega), if_pos (by omega), same_one _ _ (ha _ hA) (hb _ hB) k (by have := hK _ hA; omega), wrap_succ (by omega), ih (i + 1) k (by omega) (by omega) (by omega)]
    have hi := drop_eq_iff z a b i (by omega) (by omega)
    rw [rdz, rdz] at hi
    simp only [Option.bind_some]
    by_cases hx : rd_T27 a (i : Int) = rd_T27 b (i : Int)
    · have : (a.drop i = b.drop i) = (a.drop (i + 1) = b.drop (i + 1)) := propext ⟨fun e => (hi.1 e).2, fun e => hi.2 ⟨hx, e⟩⟩
      simp only [hx, decide_true, if_true, this]
    · have : ¬ (a.drop i = b.drop i) := fun e => hx (hi.1 e).1
      simp [hx, this]
theorem same_eq (a b : List It) (ha : ∀ x ∈ a, wfS27 x) (hb : ∀ x ∈ b, wfS27 x) (hm : a.length ≤ maxLen) (k : Nat) (hk : a.length + top (fun x : It => x.f1.length) a + 1 < k) : expand_Same.f k a b = some (decide (a = b)) := by
  unfold expand_Same.f slices_EqualFunc_by_expand_Same_1.f
  by_cases h : a.length = b.length
  · rw [if_pos (by omega)]
    have := func_l a b ha hb h hm (top (fun x : It => x.f1.length) a + 1) (fun x hx => Nat.lt_succ_of_le (top_le (fun x : It => x.f1.length) a x hx)) a.length 0 k (by omega) (by omega) (by omega)
    simp only [Int.natCast_zero, List.drop_zero] at this
    rw [this]
    rfl
  · rw [if_neg (by omega)]
    have : ¬ a = b := fun e => h (by rw [e])
    simp [this]
theorem ref_l (a b : List It) (ha : ∀ x ∈ a, wfS27 x) (hb : ∀ x ∈ b, wfS27 x) (hl : a.length = b.length) (hm : a.length ≤ maxLen) : ∀ d i k, a.length - i = d → d < k → i ≤ a.length →
    quoinref19_Same.l0 k a b (i : Int) = some (decide (a.drop i = b.drop i)) := by
  intro d
  induction d with
  | zero =>
    intro i k h1 h2 h3
    obtain ⟨k, rfl⟩ : ∃ m, k = m + 1 := ⟨k - 1, by omega⟩
    simp only [quoinref19_Same.l0]
    rw [if_neg (by omega), List.drop_eq_nil_of_le (by omega), List.drop_eq_nil_of_le (by omega)]
    simp
  | succ d ih =>
    intro i k h1 h2 h3
    obtain ⟨k, rfl⟩ : ∃ m, k = m + 1 := ⟨k - 1, by omega⟩
    have hA := ha _ (wf_at ha (i := i) (by omega))
    have hB := hb _ (wf_at hb (i := i) (by omega))
    rw [rdz] at hA hB
    simp only [quoinref19_Same.l0]
    rw [if_pos (by omega), if_pos (by omega), if_pos (by omega), wrap_succ (by omega), ih (i + 1) k (by omega) (by omega) (by omega)]
    have hi := drop_eq_iff z a b i (by omega) (by omega)
    rw [rdz, rdz] at hi
    generalize rd_T27 a (i : Int) = x at *
    generalize rd_T27 b (i : Int) = y at *
    rw [show (decide (a.drop i = b.drop i)) = decide (x = y ∧ a.drop (i + 1) = b.drop (i + 1)) from decide_eq_decide.2 hi]
    obtain ⟨a0, a1, a2, a3, a4, a5, a6⟩ := x
    obtain ⟨b0, b1, b2, b3, b4, b5, b6⟩ := y
    simp only [str_iff (allB_of_wf hA.2.1.2) (allB_of_wf hB.2.1.2), toList_inj, S27.mk.injEq]
    by_cases h0 : a0 = b0 <;> by_cases h1 : a1 = b1 <;> by_cases h2 : a2 = b2 <;> by_cases h3 : a3 = b3 <;> by_cases h4 : a4 = b4 <;> by_cases h5 : a5 = b5 <;> by_cases h6 : a6 = b6 <;> simp [h0, h1, h2, h3, h4, h5, h6]
theorem ref_eq (a b : List It) (ha : ∀ x ∈ a, wfS27 x) (hb : ∀ x ∈ b, wfS27 x) (hm : a.length ≤ maxLen) (k : Nat) (hk : a.length < k) : quoinref19_Same.f k a b = some (decide (a = b)) := by
  unfold quoinref19_Same.f
  by_cases h : a.length = b.length
  · rw [if_pos (by omega)]
    have := ref_l a b ha hb h hm a.length 0 k (by omega) hk (by omega)
    simpa using this
  · rw [if_neg (by omega)]
    have : ¬ a = b := fun e => h (by rw [e])
    simp [this]
theorem great_some (l : List It) : ∀ (d : Nat) (n : Int) (i k : Nat), 2000 - i = d → d < k → i ≤ 2000 → ∃ r, quoinref19_Great.l0 k l n (i : Int) = some r := by
  intro d
  induction d with
  | zero =>
    intro n i k h1 h2 h3
    obtain ⟨k, rfl⟩ : ∃ m, k = m + 1 := ⟨k - 1, by omega⟩
    simp only [quoinref19_Great.l0]
    rw [if_neg (show ¬ (i : Int) < 2000 by omega)]
    split <;> split <;> exact ⟨_, rfl⟩
  | succ d ih =>
    intro n i k h1 h2 h3
    obtain ⟨k, rfl⟩ : ∃ m, k = m + 1 := ⟨k - 1, by omega⟩
    simp only [quoinref19_Great.l0]
    rw [if_pos (show (i : Int) < 2000 by omega), if_pos (show (0 : Int) ≤ i by omega), show wrap64 ((i : Int) + 1) = ((i + 1 : Nat) : Int) from wrap_succ (by unfold maxLen; omega)]
    split
    · exact ih _ (i + 1) k (by omega) (by omega) (by omega)
    · split <;> exact ⟨_, rfl⟩
theorem great_ex (l : List It) (k : Nat) (hk : 2000 < k) : ∃ r, quoinref19_Great.f k l = some r := great_some l 2000 0 0 k (by omega) hk (by omega)
theorem ExpandSame : quoinlaw19_ExpandSame.Pure := by
  intro a b ha hb
  obtain ⟨K, hK⟩ : ∃ K, K = a.length + top (fun x : It => x.f1.length) a + 2003 := ⟨_, rfl⟩
  refine ⟨K, ?_⟩
  obtain ⟨r, hr⟩ := great_ex a K (by omega)
  obtain ⟨s, hs⟩ := great_ex b K (by omega)
  unfold quoinlaw19_ExpandSame.f
  rw [hr, hs]
  obtain ⟨j, rfl⟩ : ∃ j, K = j + 1 := ⟨K - 1, by omega⟩
  simp only [Option.bind_some, quoinlaw19_ExpandSame.j0]
  rw [same_eq a b ha.2 hb.2 ha.1 j (by omega), ref_eq a b ha.2 hb.2 ha.1 j (by omega)]
  simp only [Option.bind_some]
  by_cases hab : a = b <;> cases r <;> cases s <;> simp [hab]
end Go.Proofs.Ytdhkmaiidbomdaa.Pure
