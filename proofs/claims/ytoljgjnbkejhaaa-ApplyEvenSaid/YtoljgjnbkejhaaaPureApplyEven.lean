/- ApplyEven: a value is refused just by its type, whatever the bytes are; what is refused answers nothing; put twice is put once, but of the sums; for any two bytes, type and value. -/
import Derived.Test.YtoljgjnbkejhaaaZApplyAlive
import Derived.Test.YtoljgjnbkejhaaaZSpec
import Derived.Test.YtoljgjnbkejhaaaPx13
import Derived.Test.YtoljgjnbkejhaaaPx5
namespace Go.Proofs.Ytoljgjnbkejhaaa.Pure
open Go.RowKit Go.Proofs.Ytoljgjnbkejhaaa.P Go.Proofs.YtoljgjnbkejhaaaW.PrintWords Go.Proofs.YtoljgjnbkejhaaaW.PrintLast Go.Proofs.Ytoljgjnbkejhaaa.Z
set_option linter.unusedSimpArgs false
set_option linter.unusedVariables false
theorem sums_eq (kd : Int) : quoinlaw26_sums.f kd = some (decide (isSum kd)) := by
  unfold quoinlaw26_sums.f
  by_cases h : kd ≥ 33
  · rw [if_pos h]
    congr 1
    exact decide_eq_decide.mpr ⟨fun c => ⟨h, c⟩, fun c => c.2⟩
  · rw [if_neg h, decide_eq_false (fun c : isSum kd => h c.1)]
/-- What is wrong is odd, or another thing. -/
theorem err_even {kd v : Int} {len : Nat} (hkd : 0 ≤ kd ∧ kd ≤ 255) (h : fixErr kd v len = 261) : v % 2 = 1 := by
  have fv := field_vals hkd
  unfold fixErr at h
  by_cases c1 : (fieldAns kd).2 ≠ 0
  · rw [if_pos c1] at h; omega
  rw [if_neg c1] at h
  by_cases c2 : (len : Int) ≠ (fieldAns kd).1
  · rw [if_pos c2] at h; cases h
  rw [if_neg c2] at h
  by_cases c3 : kd = 18
  · rw [if_pos c3] at h
    by_cases c4 : v % 2 = 1
    · exact c4
    · rw [if_neg c4] at h
      unfold highAns at h
      split at h <;> cases h
  rw [if_neg c3] at h
  unfold partAns at h
  by_cases d1 : farAns kd > 0 ∧ v % 2 = 1
  · exact d1.2
  rw [if_neg d1] at h
  unfold highAns lowAns at h
  repeat' split at h
  all_goals cases h
theorem pick_twice (s : Option Nat) (P : Nat) (b : Bool) : pick s P (pick s P b) = pick s P b := by
  cases s <;> rfl
theorem fixBit_congr (kd v : Int) {b b' : Nat → Bool} {i : Nat} (h : b i = b' i) : fixBit kd v b i = fixBit kd v b' i := by
  unfold fixBit
  rw [h]
theorem fixBit_twice (kd v : Int) (b : Nat → Bool) (i : Nat) : fixBit kd v (fun j => fixBit kd v b j) i = fixBit kd v b i := by
  unfold fixBit
  by_cases c1 : kd = 18
  · simp only [if_pos c1]
    by_cases c2 : i < 32
    · simp only [if_pos c2, pick_twice]
    · simp only [if_neg c2, pick_twice]
  · simp only [if_neg c1]
    by_cases c2 : kd = 1 ∨ kd = 2
    · simp only [if_pos c2]
    · simp only [if_neg c2, pick_twice]
theorem even_j1 {l out : List Int} (hl : AllB l) {kd v : Int} (hkd : 0 ≤ kd ∧ kd ≤ 255) (hv : -9223372036854775808 ≤ v ∧ v ≤ 9223372036854775807) (F : Fixed kd v l out) (e : Int) (he : e = fixErr kd v l.length) (k : Nat) (hk : 70 ≤ k) :
    quoinlaw26_ApplyEven.j1 k l kd v true out e false = some true := by
  obtain ⟨k, rfl⟩ : ∃ m, k = m + 1 := ⟨k - 1, by omega⟩
  subst he
  simp only [quoinlaw26_ApplyEven.j1]
  rw [if_neg (by simp)]
  by_cases h : fixErr kd v l.length = 0
  · have hlen := F.len h
    obtain ⟨out2, g1, g2⟩ := fix_eq F.bytes hkd hv k (by omega)
    rw [hlen, h] at g1
    have h2 : fixErr kd v out.length = 0 := by rw [hlen]; exact h
    rw [if_pos h, g1, sums_eq]
    simp only [Option.bind_some, if_true]
    rw [if_pos (by omega)]
    by_cases hs : isSum kd
    · rw [decide_eq_true hs, if_pos rfl]
    · have e2 : out2 = out := by
        refine bytes_ext g2.bytes F.bytes (g2.len h2) (fun i hi => ?_)
        have hi2 : i < 8 * out.length := by rw [← g2.len h2]; exact hi
        rw [g2.bits_ h2 hs i hi2]
        have : bitL out i = fixBit kd v (bitL l) i := F.bits_ h hs i (by omega)
        rw [fixBit_congr kd v (b' := fun j => fixBit kd v (bitL l) j) this, fixBit_twice, this]
      rw [decide_eq_false hs, if_neg (by simp), e2]
      simp
  · rw [if_neg h]
    by_cases h3 : fixErr kd v l.length = 261
    · have ho := err_even hkd h3
      have : ¬ (Int.tmod v 2 = 0) := by
        intro hz
        have := Int.tmod_add_mul_tdiv v 2
        omega
      simp [h3, this]
    · simp [h3]
theorem even_j0 {a b : List Int} (ha : AllB a) (hb : AllB b) {kd v : Int} (hkd : 0 ≤ kd ∧ kd ≤ 255) (hv : -9223372036854775808 ≤ v ∧ v ≤ 9223372036854775807) (x : Bool) (hx : x = true ∨ a.length = b.length) (k : Nat) (hk : 80 ≤ k) :
    quoinlaw26_ApplyEven.j0 k a b kd v true x = some true := by
  obtain ⟨k, rfl⟩ : ∃ m, k = m + 1 := ⟨k - 1, by omega⟩
  simp only [quoinlaw26_ApplyEven.j0]
  cases x
  · have hlen := hx.resolve_left (by simp)
    obtain ⟨o1, g1, F1⟩ := fix_eq ha hkd hv k (by omega)
    obtain ⟨o2, g2, F2⟩ := fix_eq hb hkd hv k (by omega)
    have J := even_j1 ha hkd hv F1 _ rfl k (by omega)
    rw [if_neg (by simp), g1, g2]
    simp only [Option.bind_some]
    rw [if_pos (by rw [hlen])]
    by_cases h : fixErr kd v a.length = 0
    · rw [if_pos h]
      exact J
    · have n1 := F1.none_ h
      have n2 := F2.none_ (by rw [← hlen]; exact h)
      rw [if_neg h, n1, n2, if_pos (show ((([] : List Int).length : Nat) : Int) = 0 from rfl)]
      rw [n1] at J
      exact J
  · rw [if_pos rfl]
theorem ApplyEven : quoinlaw26_ApplyEven.Pure := by
  intro a b kd v _ _ ha _ _ hb hkd hv
  refine ⟨200, ?_⟩
  have J := even_j0 (allB_of_wf ha) (allB_of_wf hb) (wfu8 hkd) (wf64 hv)
  unfold quoinlaw26_ApplyEven.f
  rw [alive26_eq (by omega)]
  simp only [Option.bind_some]
  split
  · exact J _ (.inl rfl) _ (by omega)
  · split
    · exact J _ (.inl rfl) _ (by omega)
    · refine J _ ?_ _ (by omega)
      by_cases h : a.length = b.length
      · exact .inr h
      · left
        rw [bne_iff_ne]
        omega
end Go.Proofs.Ytoljgjnbkejhaaa.Pure
