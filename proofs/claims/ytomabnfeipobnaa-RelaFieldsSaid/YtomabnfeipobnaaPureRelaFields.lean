/- RelaFields: a type is about 0, 1, 2, 4 or 8 bytes, or is none; unlike relocations have unlike bytes, but for the section; for any type and two relocations. -/
import Derived.Test.YtomabnfeipobnaaZRelaAlive
import Derived.Test.YtomabnfeipobnaaPx36
namespace Go.Proofs.Ytomabnfeipobnaa.Pure
open Go.RowKit Go.Proofs.Ytomabnfeipobnaa.P Go.Proofs.YtomabnfeipobnaaW.PrintWords Go.Proofs.YtomabnfeipobnaaW.PrintLast Go.Proofs.Ytomabnfeipobnaa.Z
set_option linter.unusedSimpArgs false
set_option linter.unusedVariables false
theorem relaAns_zero {off kd sym add : Int} (h : (relaAns off kd sym add).2 = 0) : relaOk off kd sym add = true := by
  unfold relaAns at h
  split at h
  · assumption
  · simp at h
theorem fields_j2 (b1 : List Int) (e1 : Int) (b2 : List Int) (e2 s1 o1 k1 y1 a1 s2 o2 k2 y2 a2 : Int) (h1 : relaAns o1 k1 y1 a1 = (b1, e1)) (h2 : relaAns o2 k2 y2 a2 = (b2, e2)) (hk1 : 0 ≤ k1 ∧ k1 ≤ 255) (hk2 : 0 ≤ k2 ∧ k2 ≤ 255) (k : Nat) (hk : 1 ≤ k) :
    quoinlaw11_RelaFields.j2 k true b1 e1 b2 e2 false s1 o1 k1 y1 a1 s2 o2 k2 y2 a2 = some true := by
  obtain ⟨k, rfl⟩ : ∃ m, k = m + 1 := ⟨k - 1, by omega⟩
  simp only [quoinlaw11_RelaFields.j2]
  rw [if_neg (by simp)]
  by_cases z1 : e1 = 0
  · rw [if_pos z1]
    by_cases z2 : e2 = 0
    · rw [if_pos z2, if_pos trivial]
      have w1 := relaAns_zero (off := o1) (kd := k1) (sym := y1) (add := a1) (by rw [h1]; exact z1)
      have w2 := relaAns_zero (off := o2) (kd := k2) (sym := y2) (add := a2) (by rw [h2]; exact z2)
      rw [relaAns, if_pos w1] at h1
      rw [relaAns, if_pos w2] at h2
      have q1 : relaBytes o1 k1 y1 a1 = b1 := congrArg Prod.fst h1
      have q2 : relaBytes o2 k2 y2 a2 = b2 := congrArg Prod.fst h2
      subst q1 q2
      rw [if_pos (by rw [relaBytes_length]; rfl)]
      by_cases e : relaBytes o1 k1 y1 a1 = relaBytes o2 k2 y2 a2
      · obtain ⟨rfl, rfl, rfl, rfl⟩ := relaBytes_inj hk1 w1 hk2 w2 e
        rw [if_pos rfl]
        simp
      · rw [if_neg (fun h => e (str_inj (relaBytes_allB _ _ _ _) (relaBytes_allB _ _ _ _) h))]
        congr 1
        rw [Bool.not_eq_true']
        rw [Bool.eq_false_iff]
        intro hh
        simp only [Bool.and_eq_true, beq_iff_eq] at hh
        obtain ⟨rfl, rfl, rfl, rfl⟩ := hh
        exact e rfl
    · rw [if_neg z2]
  · rw [if_neg z1]
theorem fields_j1 (s1 o1 k1 y1 a1 s2 o2 k2 y2 a2 : Int) (b : Bool) (hb : b = relaOk o1 k1 y1 a1) (hk1 : 0 ≤ k1 ∧ k1 ≤ 255) (hk2 : 0 ≤ k2 ∧ k2 ≤ 255) (k : Nat) (hk : 2 ≤ k) :
    quoinlaw11_RelaFields.j1 k true (relaAns o1 k1 y1 a1).1 (relaAns o1 k1 y1 a1).2 (relaAns o2 k2 y2 a2).1 (relaAns o2 k2 y2 a2).2 b s1 o1 k1 y1 a1 s2 o2 k2 y2 a2 = some true := by
  obtain ⟨k, rfl⟩ : ∃ m, k = m + 1 := ⟨k - 1, by omega⟩
  simp only [quoinlaw11_RelaFields.j1]
  have J := fields_j2 (relaAns o1 k1 y1 a1).1 (relaAns o1 k1 y1 a1).2 (relaAns o2 k2 y2 a2).1 (relaAns o2 k2 y2 a2).2 s1 o1 k1 y1 a1 s2 o2 k2 y2 a2 rfl rfl hk1 hk2 k (by omega)
  by_cases w : relaOk o1 k1 y1 a1 = true
  · rw [if_pos (by rw [relaAns, if_pos w]), if_pos (by rw [hb, w])]
    exact J
  · rw [if_neg (by rw [relaAns, if_neg w]; decide), if_neg (by rw [hb]; exact w)]
    have : ((((relaAns o1 k1 y1 a1).1).length : Int) != 0) = false := by rw [relaAns, if_neg w]; rfl
    rw [this]
    exact J
theorem fields_j0 (s1 o1 k1 y1 a1 s2 o2 k2 y2 a2 : Int) (hk1 : 0 ≤ k1 ∧ k1 ≤ 255) (hk2 : 0 ≤ k2 ∧ k2 ≤ 255) (k : Nat) (hk : 30 ≤ k) :
    quoinlaw11_RelaFields.j0 k true false s1 o1 k1 y1 a1 s2 o2 k2 y2 a2 = some true := by
  obtain ⟨k, rfl⟩ : ∃ m, k = m + 1 := ⟨k - 1, by omega⟩
  simp only [quoinlaw11_RelaFields.j0]
  rw [if_neg (by simp), relawrite_eq _ _ _ _ _ hk1 k (by omega), relawrite_eq _ _ _ _ _ hk2 k (by omega), field_eq hk1 (by omega)]
  simp only [Option.bind_some]
  have J := fun b hb => fields_j1 s1 o1 k1 y1 a1 s2 o2 k2 y2 a2 b hb hk1 hk2 k (by omega)
  have N : ∀ (h : ¬ ((fieldAns k1).2 = 0 ∧ 0 ≤ o1 ∧ o1 ≤ 4096 ∧ -1 ≤ y1 ∧ y1 ≤ 63 ∧ -2147483648 ≤ a1 ∧ a1 ≤ 4294967295)), false = relaOk o1 k1 y1 a1 := fun h => (decide_eq_false h).symm
  by_cases c0 : (fieldAns k1).2 = 0
  · rw [if_pos c0]
    by_cases c1 : o1 ≥ 0
    · rw [if_pos c1]
      by_cases c2 : o1 ≤ 4096
      · rw [if_pos c2]
        by_cases c3 : y1 ≥ -1
        · rw [if_pos c3]
          by_cases c4 : y1 ≤ 63
          · rw [if_pos c4]
            by_cases c5 : a1 ≥ -2147483648
            · rw [if_pos c5]
              refine J _ ?_
              unfold relaOk
              apply decide_eq_decide.mpr
              omega
            · rw [if_neg c5]; exact J _ (N (by omega))
          · rw [if_neg c4]; exact J _ (N (by omega))
        · rw [if_neg c3]; exact J _ (N (by omega))
      · rw [if_neg c2]; exact J _ (N (by omega))
    · rw [if_neg c1]; exact J _ (N (by omega))
  · rw [if_neg c0]; exact J _ (N (fun h => c0 h.1))
theorem RelaFields : quoinlaw11_RelaFields.Pure := by
  intro kd s1 o1 k1 y1 a1 s2 o2 k2 y2 a2 hkd _ _ hk1 _ _ _ _ hk2 _ _
  refine ⟨100, ?_⟩
  have hkd := wfu8 hkd
  have J := fields_j0 s1 o1 k1 y1 a1 s2 o2 k2 y2 a2 (wfu8 hk1) (wfu8 hk2) 100 (by omega)
  have v := field_vals hkd
  unfold quoinlaw11_RelaFields.f
  rw [alive11_eq (by omega), field_eq hkd (by omega)]
  simp only [Option.bind_some]
  rcases v with ⟨v, w⟩ | ⟨v, w⟩
  · rcases w with w | w | w | w | w <;> simp [v, w, J]
  · simp [v, w, J]
end Go.Proofs.Ytomabnfeipobnaa.Pure
