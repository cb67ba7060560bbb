/- LabelsKeeps: the names of local numbers are unlike for unlike ones; as many items are answered, each with its kind, its bytes and its numbers; what asks for no local number stays. -/
import Derived.Test.YtkjmbfabgkppaaaDoorZLabelsTwice
import Derived.Test.YtkjmbfabgkppaaaDoorPx4
namespace Go.Proofs.YtkjmbfabgkppaaaDoor.Pure
open Go.RowKit Go.Proofs.YtkjmbfabgkppaaaDoor.P Go.Proofs.YtkjmbfabgkppaaaDoor.Z Go.Proofs.YtkjmbfabgkppaaaDoorW.PrintWords Go.Proofs.YtkjmbfabgkppaaaDoorW.PrintLast
set_option linter.unusedSimpArgs false
set_option linter.unusedVariables false

/-- What Name answers: nothing and an error; or the name of a local number and a count. -/
theorem name_cases (a : ByteArray) (n : Int) (ha : a.size ≤ 1000) : ∃ (x : ByteArray) (e : Int), labels_Name.f a n = some (x, e) ∧ ((e ≠ 0 ∧ x = (⟨#[]⟩ : ByteArray)) ∨ (e = 0 ∧ localB a = true ∧ ∃ c : Nat, n = (c : Int) ∧ x = nameB a (c : Int))) := by
  unfold labels_Name.f
  rw [local_eq]
  simp only [Option.bind_some]
  cases hl : localB a with
  | false => exact ⟨_, _, if_neg (by decide), .inl ⟨by decide, rfl⟩⟩
  | true =>
    rw [if_pos rfl]
    by_cases h0 : n < 0
    · exact ⟨_, _, if_pos h0, .inl ⟨by decide, rfl⟩⟩
    · rw [if_neg h0]
      by_cases h1 : n > 1024
      · exact ⟨_, _, if_pos h1, .inl ⟨by decide, rfl⟩⟩
      · rw [if_neg h1]
        have : labels_name.f a n = some (nameB a n) := by
          unfold labels_name.f
          rw [if_pos ⟨by omega, by omega, by omega⟩]
        rw [this]
        exact ⟨_, _, rfl, .inr ⟨rfl, rfl, n.toNat, by omega, by rw [Int.toNat_of_nonneg (by omega)]⟩⟩
theorem list_ext {x y : ByteArray} (h : x.toList = y.toList) : x = y := ba_ext h
theorem LabelsKeeps : quoinlaw21_LabelsKeeps.Pure := by
  intro l a n b m hwl _ _ _ _
  obtain ⟨gr, hg, hb⟩ := great_cases l
  obtain ⟨N, hN⟩ : ∃ N, N = l.length * 1040 + 90000 := ⟨_, rfl⟩
  refine ⟨N + 1, ?_⟩
  unfold quoinlaw21_LabelsKeeps.f
  rw [hg _ (by omega)]
  simp only [Option.bind_some]
  cases gr with
  | true => exact if_pos (.inl rfl)
  | false =>
    have hs := hb rfl
    by_cases ha : (1000 : Int) < (a.size : Int)
    · exact if_pos (.inr (.inl ha))
    by_cases hbb : (1000 : Int) < (b.size : Int)
    · exact if_pos (.inr (.inr (.inl hbb)))
    refine if_pos (.inr (.inr (.inr ?_)))
    obtain ⟨x, e, hx, hxc⟩ := name_cases a n (by omega)
    obtain ⟨y, f, hy, hyc⟩ := name_cases b m (by omega)
    unfold quoinlaw21_LabelsKeeps.ok
    rw [hx, hy, rename_small hs]
    simp only
    rw [Bool.and_eq_true, decide_eq_true_iff]
    constructor
    · rcases hxc with hxc | ⟨e0, la, c, hc, hxe⟩
      · exact .inl hxc
      · rcases hyc with ⟨hyc, _⟩ | ⟨f0, lb, d, hd, hye⟩
        · exact .inr (.inl ⟨e0, hyc⟩)
        · by_cases hab : a = b
          · refine .inr (.inr (.inr ⟨e0, f0, by rw [hab]; exact beq_iff_eq.2 rfl, ?_⟩))
            by_cases hcd : c = d
            · rw [hxe, hye, hab, hcd, hc, hd, hcd]
              rw [show ((nameB b (d : Int)).toList == (nameB b (d : Int)).toList) = true from beq_iff_eq.2 rfl]
              exact (beq_iff_eq.2 rfl).symm
            · rw [show (n == m) = false from beq_eq_false_iff_ne.2 (by omega)]
              refine beq_eq_false_iff_ne.2 (fun h => hcd ?_)
              rw [hxe, hye] at h
              exact (name_inj la lb (list_ext h)).2
          · refine .inr (.inr (.inl ⟨e0, f0, beq_eq_false_iff_ne.2 (fun h => hab (list_ext h)), beq_eq_false_iff_ne.2 (fun h => hab ?_)⟩))
            rw [hxe, hye] at h
            exact (name_inj la lb (list_ext h)).1
    · rcases renameF_cases l with ⟨_, e⟩ | ⟨z, e, hz, hl, hone⟩ | ⟨j, hj, _, _, e⟩
      · rw [e, if_neg (by decide)]
        rfl
      · rw [e, if_pos rfl, Bool.and_eq_true, decide_eq_true_iff]
        refine ⟨⟨rfl, hz, by omega, rename_twice hs hl hz hone⟩, ?_⟩
        rw [List.all_eq_true]
        intro i hi
        have hi := List.mem_range.1 hi
        obtain ⟨q0, q1, q2, q5, q6, _, _, _, _, _, q34, _⟩ := one_done (by omega) (hs.2 _ (rd_mem l i hi)).2 (hone i hi)
        unfold keepsAlikeB
        rw [decide_eq_true_iff]
        refine ⟨q0.symm, q1.symm, q2.symm, q5.symm, q6.symm, ?_⟩
        by_cases k6 : (rd_T31 l (i : Int)).f0 = 6
        · exact .inl k6
        by_cases k1 : (rd_T31 l (i : Int)).f0 = 1
        · exact .inr (.inl k1)
        by_cases k3 : (rd_T31 l (i : Int)).f0 = 3
        · exact .inr (.inr (.inl k3))
        have := q34 (by rw [q0]; exact k6) (by rw [q0]; exact k1) (by rw [q0]; exact k3)
        exact .inr (.inr (.inr ⟨this.1.symm, this.2.symm⟩))
      · rw [e, if_neg (show ¬ (210 : Int) = 0 by decide)]
        show decide (([] : List S31).length = 0 ∧ (0 : Int) ≤ (j : Int)) = true
        exact decide_eq_true ⟨rfl, by omega⟩
end Go.Proofs.YtkjmbfabgkppaaaDoor.Pure
