/- SectBack: heads and their bytes are told by one another; for any numbers and bytes. -/
import Derived.Test.YtomabnfeipobnaaZHeadAlive
import Derived.Test.YtomabnfeipobnaaPx23
namespace Go.Proofs.Ytomabnfeipobnaa.Pure
open Go.RowKit Go.Proofs.Ytomabnfeipobnaa.P Go.Proofs.YtomabnfeipobnaaW.PrintWords Go.Proofs.YtomabnfeipobnaaW.PrintLast Go.Proofs.Ytomabnfeipobnaa.Z
set_option linter.unusedSimpArgs false
set_option linter.unusedVariables false
theorem sectback_j0 (l : List Int) (hl : AllB l) (k : Nat) (hk : 60 ≤ k) : quoinlaw09_SectBack.j0 k l true = some true := by
  obtain ⟨k, rfl⟩ : ∃ m, k = m + 1 := ⟨k - 1, by omega⟩
  simp only [quoinlaw09_SectBack.j0]
  rw [headread_eq l hl k (by omega)]
  simp only [Option.bind_some]
  unfold headReadAns
  by_cases h : l.length = 64
  · rw [if_pos h]
    by_cases hp : allPos (headNums l 0 headSz) = true
    · rw [if_pos hp]
      have b := bytes_nums hl headSz 0 (by omega) sz_head (by rw [h]; decide)
      have e : headPs ((headNums l 0 headSz).getD 0 0) ((headNums l 0 headSz).getD 1 0) ((headNums l 0 headSz).getD 2 0) ((headNums l 0 headSz).getD 3 0) ((headNums l 0 headSz).getD 4 0)
          ((headNums l 0 headSz).getD 5 0) ((headNums l 0 headSz).getD 6 0) ((headNums l 0 headSz).getD 7 0) ((headNums l 0 headSz).getD 8 0) ((headNums l 0 headSz).getD 9 0) = (headNums l 0 headSz).zip headSz := rfl
      dsimp only
      rw [if_pos rfl, headwrite_eq _ _ _ _ _ _ _ _ _ _ k (by omega), e]
      simp only [Option.bind_some]
      rw [headAns, if_pos (b.2 hp), b.1]
      simp
    · rw [if_neg hp, if_neg (by decide)]
      decide +kernel
  · rw [if_neg h, if_neg (by decide)]
    decide +kernel
theorem SectBack : quoinlaw09_SectBack.Pure := by
  intro h0 h1 h2 h3 h4 h5 h6 h7 h8 h9 l w0 w1 w2 w3 w4 w5 w6 w7 w8 w9 hl
  refine ⟨100, ?_⟩
  have hL := allB_of_wf hl.2
  have J := sectback_j0 l hL 100 (by omega)
  unfold quoinlaw09_SectBack.f
  rw [alive9_eq _ (by omega), headwrite_eq _ _ _ _ _ _ _ _ _ _ _ (by omega)]
  simp only [Option.bind_some]
  rw [headAns]
  by_cases ho : headOk (headPs h0 h1 h2 h3 h4 h5 h6 h7 h8 h9) = true
  · have hb : ∀ p ∈ headPs h0 h1 h2 h3 h4 h5 h6 h7 h8 h9, p.1 ≤ 9223372036854775807 := by
      intro p hp
      simp only [headPs, List.mem_cons, List.not_mem_nil, or_false] at hp
      rcases hp with rfl | rfl | rfl | rfl | rfl | rfl | rfl | rfl | rfl | rfl
      · exact (wf64 w0).2
      · exact (wf64 w1).2
      · exact (wf64 w2).2
      · exact (wf64 w3).2
      · exact (wf64 w4).2
      · exact (wf64 w5).2
      · exact (wf64 w6).2
      · exact (wf64 w7).2
      · exact (wf64 w8).2
      · exact (wf64 w9).2
    have hn := nums_bytes0 _ ho hb
    have hlen := headBytes_length (headPs h0 h1 h2 h3 h4 h5 h6 h7 h8 h9) sz_head
    have hlen64 : (headBytes (headPs h0 h1 h2 h3 h4 h5 h6 h7 h8 h9)).length = 64 := by
      have e : ((headPs h0 h1 h2 h3 h4 h5 h6 h7 h8 h9).map Prod.snd).sum = 64 := rfl
      omega
    have hn' : headNums (headBytes (headPs h0 h1 h2 h3 h4 h5 h6 h7 h8 h9)) 0 headSz = [h0, h1, h2, h3, h4, h5, h6, h7, h8, h9] := hn
    have hp := allPos_headOk _ ho
    have hp' : allPos [h0, h1, h2, h3, h4, h5, h6, h7, h8, h9] = true := hp
    rw [if_pos ho]
    dsimp only
    rw [if_pos rfl, headread_eq _ (headBytes_allB _) _ (by omega)]
    simp only [Option.bind_some]
    rw [headReadAns, if_pos hlen64, hn', if_pos hp']
    simp [hlen64, J]
  · rw [if_neg ho]
    dsimp only
    rw [if_neg (by decide)]
    exact J
end Go.Proofs.Ytomabnfeipobnaa.Pure
