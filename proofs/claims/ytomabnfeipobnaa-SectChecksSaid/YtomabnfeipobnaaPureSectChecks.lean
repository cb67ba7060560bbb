/- SectChecks: sections and their kinds are told, compared, copied as is said; for any two sections and name. -/
import Derived.Test.YtomabnfeipobnaaZSect
import Derived.Test.YtomabnfeipobnaaPx25
import Derived.Test.YtomabnfeipobnaaPx19
import Derived.Test.YtomabnfeipobnaaPx24
namespace Go.Proofs.Ytomabnfeipobnaa.Pure
open Go.RowKit Go.Proofs.Ytomabnfeipobnaa.P Go.Proofs.YtomabnfeipobnaaW.PrintWords Go.Proofs.YtomabnfeipobnaaW.PrintLast Go.Proofs.Ytomabnfeipobnaa.Z
set_option linter.unusedSimpArgs false
set_option linter.unusedVariables false
theorem same_refl (n : ByteArray) (a : Int) (l : List Int) (z : Int) : quoinref09_Same.f n a l z n a l z = some true := by
  unfold quoinref09_Same.f
  rw [if_pos rfl, if_pos rfl, if_pos rfl, beq_self_eq_true]
theorem same_same (n : ByteArray) (a : Int) (l : List Int) (z : Int) (n2 : ByteArray) (a2 : Int) (l2 : List Int) (z2 : Int) : sect_Same.f n a l z n2 a2 l2 z2 = quoinref09_Same.f n a l z n2 a2 l2 z2 := rfl
theorem same_some (n : ByteArray) (a : Int) (l : List Int) (z : Int) (n2 : ByteArray) (a2 : Int) (l2 : List Int) (z2 : Int) : ∃ b, quoinref09_Same.f n a l z n2 a2 l2 z2 = some b := by
  unfold quoinref09_Same.f
  repeat' split
  all_goals exact ⟨_, rfl⟩
theorem twin_eq (n : ByteArray) (a : Int) (l : List Int) (z : Int) (h : l.length < 140737488355328) : sect_Twin.f n a l z = some (n, a, l, z) := by
  unfold sect_Twin.f
  rw [if_pos (by simp; omega), List.nil_append]
theorem reftwin_eq (n : ByteArray) (a : Int) (l : List Int) (z : Int) (h : l.length < 140737488355328) : quoinref09_Twin.f n a l z = some (n, a, l, z) := by
  unfold quoinref09_Twin.f
  rw [if_pos (by simp; omega), List.nil_append]
theorem checks_loop (n : ByteArray) (a : Int) (l : List Int) (z : Int) (n3 : ByteArray) (a3 z3 : Int) (d : Nat) : ∀ (k i : Nat) (l3 : List Int), i + d = l3.length → l3.length < 140737488355328 → d < k →
    quoinlaw09_SectChecks.l0 k (i : Int) n a l z n a l z n3 a3 l3 z3 = some true := by
  induction d with
  | zero =>
    intro k i l3 hi hl hk
    obtain ⟨k, rfl⟩ : ∃ m, k = m + 1 := ⟨k - 1, by omega⟩
    simp only [quoinlaw09_SectChecks.l0]
    rw [if_neg (by omega), same_refl]
    rfl
  | succ d ih =>
    intro k i l3 hi hl hk
    obtain ⟨k, rfl⟩ : ∃ m, k = m + 1 := ⟨k - 1, by omega⟩
    simp only [quoinlaw09_SectChecks.l0]
    rw [if_pos (by omega), if_pos (by omega), wrap64_id (by omega) (by omega)]
    exact ih k (i + 1) _ (by rw [List.length_set]; omega) (by rw [List.length_set]; omega) (by omega)
theorem checks_j0 (n : ByteArray) (a : Int) (l : List Int) (z : Int) (n2 : ByteArray) (a2 : Int) (l2 : List Int) (z2 : Int) (name : ByteArray) (b : Bool) (hb : b = true ∨ l.length ≤ 10000)
    (hn : n.size ≤ 9223372036854775807) (hname : name.size ≤ 140737488351232) (k : Nat) (hk : l.length + n.size + name.size + 40 ≤ k) :
    quoinlaw09_SectChecks.j0 k name b n a l z n2 a2 l2 z2 = some true := by
  obtain ⟨k, rfl⟩ : ∃ m, k = m + 1 := ⟨k - 1, by omega⟩
  simp only [quoinlaw09_SectChecks.j0]
  cases b
  · have hl := hb.resolve_left (by simp)
    rw [if_neg (by simp), reftwin_eq _ _ _ _ (by omega)]
    simp only [Option.bind_some]
    rw [kind_eq _ (by omega), refkind_eq _ (by omega) k (by omega), twin_eq _ _ _ _ (by omega)]
    simp only [Option.bind_some]
    rw [if_pos trivial, if_pos trivial, check_eq _ _ _ _ hn k (by omega), refcheck_eq _ _ _ _ hn k (by omega)]
    simp only [Option.bind_some]
    rw [if_pos trivial, same_same, same_refl]
    obtain ⟨s, hs⟩ := same_some n a l z n2 a2 l2 z2
    rw [hs]
    obtain ⟨k, rfl⟩ : ∃ m, k = m + 1 := ⟨k - 1, by omega⟩
    have L := checks_loop n a l z n a z l.length k 0 l (by omega) (by omega) (by omega)
    cases s <;> simp [quoinlaw09_SectChecks.j1] <;> exact L
  · rw [if_pos rfl]
theorem SectChecks : quoinlaw09_SectChecks.Pure := by
  intro n a l z n2 a2 l2 z2 name hn _ _ _ _ _ _ _ hname
  refine ⟨l.length + n.size + name.size + 100, ?_⟩
  have hn : n.size ≤ 9223372036854775807 := hn
  unfold quoinlaw09_SectChecks.f
  by_cases h : (l.length : Int) > 10000
  · rw [if_pos h]
    exact checks_j0 _ _ _ _ _ _ _ _ _ _ (.inl rfl) hn hname _ (by omega)
  · rw [if_neg h]
    have hl : l.length ≤ 10000 := by omega
    split
    · exact checks_j0 _ _ _ _ _ _ _ _ _ _ (.inl rfl) hn hname _ (by omega)
    · split
      · exact checks_j0 _ _ _ _ _ _ _ _ _ _ (.inl rfl) hn hname _ (by omega)
      · exact checks_j0 _ _ _ _ _ _ _ _ _ _ (.inr hl) hn hname _ (by omega)
end Go.Proofs.Ytomabnfeipobnaa.Pure
