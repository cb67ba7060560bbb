/- RelaFits: one that may be has its bytes in its section, can be written, and may be with more symbols, too; for any relocation, sections and number. -/
import Derived.Test.YtomabnfeipobnaaZRelaCheck
import Derived.Test.YtomabnfeipobnaaZRelaAlive
import Derived.Test.YtomabnfeipobnaaPx35
import Derived.Test.YtomabnfeipobnaaPx21
namespace Go.Proofs.Ytomabnfeipobnaa.Pure
open Go.RowKit Go.Proofs.Ytomabnfeipobnaa.P Go.Proofs.YtomabnfeipobnaaW.PrintWords Go.Proofs.YtomabnfeipobnaaW.PrintLast Go.Proofs.YtomabnfeipobnaaW.PrintMore Go.Proofs.Ytomabnfeipobnaa.Z
set_option linter.unusedSimpArgs false
set_option linter.unusedVariables false
theorem large_loop (l : List S36) (hl : l.length ≤ 100) (d : Nat) : ∀ (k i : Nat), i + d = l.length → d < k → ∃ b, quoinlaw11_large.l0 k l (i : Int) = some b := by
  induction d with
  | zero =>
    intro k i hi hk
    obtain ⟨k, rfl⟩ : ∃ m, k = m + 1 := ⟨k - 1, by omega⟩
    simp only [quoinlaw11_large.l0]
    rw [if_neg (by omega)]
    exact ⟨_, rfl⟩
  | succ d ih =>
    intro k i hi hk
    obtain ⟨k, rfl⟩ : ∃ m, k = m + 1 := ⟨k - 1, by omega⟩
    simp only [quoinlaw11_large.l0]
    rw [if_pos (by omega), if_pos (by omega), wrap64_id (by omega) (by omega)]
    split
    · exact ⟨_, rfl⟩
    · split
      · exact ⟨_, rfl⟩
      · exact ih k (i + 1) (by omega) (by omega)
theorem large_some (l : List S36) (hl : l.length ≤ 100) (k : Nat) (hk : 110 ≤ k) : ∃ b, quoinlaw11_large.f k l = some b := large_loop l hl l.length k 0 (by omega) (by omega)
/-- What a relocation that may be is. -/
theorem check_parts {sec off kd sym add : Int} {l : List S36} {symbols : Int} (hkd : 0 ≤ kd ∧ kd ≤ 255) (h : relaCheckAns sec off kd sym add l symbols = 0) :
    l.length ≤ 16 ∧ (0 ≤ symbols ∧ symbols ≤ 64) ∧ (1 ≤ sec ∧ sec ≤ l.length) ∧ relaOk off kd sym add = true ∧ off + (fieldAns kd).1 ≤ (rd_T36 l (sec - 1)).f2.length ∧ sym < symbols ∧ relaCheckAns sec off kd sym add l 64 = 0 := by
  unfold relaCheckAns at h ⊢
  by_cases h16 : l.length > 16
  · rw [if_pos h16] at h; cases h
  rw [if_neg h16] at h
  by_cases hs : symbols < 0 ∨ symbols > 64
  · rw [if_pos hs] at h; cases h
  rw [if_neg hs] at h
  by_cases hsec : secsFrom l 0 = true
  · rw [if_pos hsec] at h
    unfold relaLast at h ⊢
    by_cases hr : 1 ≤ sec ∧ sec ≤ l.length
    · rw [if_pos hr] at h
      by_cases hm : relaMay off kd sym add (rd_T36 l (sec - 1)).f0 (rd_T36 l (sec - 1)).f2.length symbols = true
      · have hs1 := List.all_eq_true.1 hsec (rd_T36 l (sec - 1)) (by
          rw [List.drop_zero]
          have := rdT_get l (sec - 1).toNat (by omega)
          rw [show (((sec - 1).toNat : Nat) : Int) = sec - 1 by omega] at this
          rw [this]
          exact List.getElem_mem _)
        have hs2 := decide_eq_true_iff.1 hs1
        have hlen : (rd_T36 l (sec - 1)).f2.length ≤ 4096 := by
          unfold sectAns at hs2
          split at hs2
          · rename_i q
            have q := q.2.2
            unfold sizesOk at q
            split at q
            · have := decide_eq_true_iff.1 q; omega
            · have := decide_eq_true_iff.1 q; omega
          · cases hs2
        generalize (rd_T36 l (sec - 1)).f2.length = len at *
        generalize (rd_T36 l (sec - 1)).f0 = name at *
        have hm0 := hm
        unfold relaMay at hm
        simp only [Bool.and_eq_true, decide_eq_true_eq] at hm
        obtain ⟨⟨m0, m1, m2, m3, m4, m5⟩, m6, m7, m8⟩ := hm
        have v := field_vals hkd
        have hab : (fieldAns kd).1 ≤ aboutOf kd add ∧ 0 ≤ aboutOf kd add := by
          unfold aboutOf mx
          split
          · split <;> omega
          · omega
        have hsym : -1 ≤ sym ∧ sym < symbols ∧ lastOk kd sym 64 = true := by
          unfold lastOk at m8 ⊢
          split at m8
          · rename_i ha
            have := decide_eq_true_iff.1 m8
            rw [if_pos ha]
            exact ⟨by omega, by omega, decide_eq_true this⟩
          · rename_i ha
            have := decide_eq_true_iff.1 m8
            rw [if_neg ha]
            exact ⟨by omega, by omega, decide_eq_true (by omega)⟩
        refine ⟨by omega, by omega, hr, relaOk_iff.2 ⟨m0, m2, by omega, by omega, by omega, m4, m5⟩, by omega, hsym.2.1, ?_⟩
        rw [if_neg h16, if_neg (by omega), if_pos hsec, if_pos hr, if_pos]
        unfold relaMay
        simp only [Bool.and_eq_true, decide_eq_true_eq]
        exact ⟨⟨m0, m1, m2, m3, m4, m5⟩, m6, m7, hsym.2.2⟩
      · rw [if_neg hm] at h; cases h
    · rw [if_neg hr] at h; cases h
  · rw [if_neg hsec] at h; cases h
theorem fits_j0 (sec off kd sym add : Int) (l : List S36) (symbols : Int) (b : Bool) (hkd : 0 ≤ kd ∧ kd ≤ 255) (hsec : -9223372036854775808 ≤ sec ∧ sec ≤ 9223372036854775807) (hoff : off ≤ 9223372036854775807) (hadd : -9223372036854775808 ≤ add ∧ add ≤ 9223372036854775807)
    (hl : ∀ s ∈ l, WfSec s) (k : Nat) (hk : 100 ≤ k) : quoinlaw11_RelaFits.j0 k l symbols true b sec off kd sym add = some true := by
  obtain ⟨k, rfl⟩ : ∃ m, k = m + 1 := ⟨k - 1, by omega⟩
  simp only [quoinlaw11_RelaFits.j0]
  cases b
  · rw [if_neg (by simp), relacheck_eq _ _ _ _ _ _ _ hkd hsec hoff hadd hl k (by omega)]
    simp only [Option.bind_some]
    by_cases h : relaCheckAns sec off kd sym add l symbols = 0
    · obtain ⟨p1, p2, p3, p4, p5, p6, p7⟩ := check_parts hkd h
      have q := relaOk_iff.1 p4
      have v := field_vals hkd
      rw [if_pos h, field_eq hkd (by omega), relawrite_eq _ _ _ _ _ hkd k (by omega), relacheck_eq _ _ _ _ _ _ _ hkd hsec hoff hadd hl k (by omega)]
      simp only [Option.bind_some]
      rw [if_pos q.1, if_pos (by rw [relaAns, if_pos p4]), if_neg (by omega), if_neg (by omega), if_pos trivial, if_pos (by omega), wrap64_id (n := sec - 1) (by omega) (by omega), wrap64_id (by omega) (by omega), if_pos (by omega), if_pos (by omega), if_pos p5, if_pos p6, p7]
      rfl
    · rw [if_neg h]
  · rw [if_pos rfl]
theorem RelaFits : quoinlaw11_RelaFits.Pure := by
  intro sec off kd sym add l symbols wsec woff wkd wsym wadd hl _
  refine ⟨200, ?_⟩
  have hl2 : ∀ s ∈ l, WfSec s := fun s hs => ⟨(hl.2 s hs).1, (hl.2 s hs).2.2.1.1⟩
  have J := fun b => fits_j0 sec off kd sym add l symbols b (wfu8 wkd) (wf64 wsec) (wf64 woff).2 (wf64 wadd) hl2 200 (by omega)
  unfold quoinlaw11_RelaFits.f
  rw [alive11_eq (by omega)]
  simp only [Option.bind_some]
  by_cases h : (l.length : Int) > 20
  · rw [if_pos h]
    exact J _
  · rw [if_neg h]
    obtain ⟨b, hb⟩ := large_some l (by omega) 200 (by omega)
    rw [hb]
    exact J _
end Go.Proofs.Ytomabnfeipobnaa.Pure
