/- What is written is read back. -/
import Derived.Test.YtajnkmandhomlaaDoorPx15
import Derived.Test.YtajnkmandhomlaaDoorZLexWr
import Derived.Test.YtajnkmandhomlaaDoorZLexTok
namespace Go.Proofs.YtajnkmandhomlaaDoor.Pure
open Go.RowKit Go.Proofs.YtajnkmandhomlaaDoor.P Go.Proofs.YtajnkmandhomlaaDoor.Lex Go.Proofs.YtajnkmandhomlaaDoor.ZT Go.Proofs.YtajnkmandhomlaaDoorW.PrintWords Go.Proofs.YtajnkmandhomlaaDoorW.PrintLast
set_option linter.unusedSimpArgs false
set_option linter.unusedVariables false

theorem toS_toTok (x : S23) (h : 0 ≤ x.f0) : toS (toTok x) = x := by
  obtain ⟨a, b, c⟩ := x
  simp only [toS, toTok]
  rw [Int.toNat_of_nonneg h]
theorem back_map (l : List S23) (h : ∀ x ∈ l, 0 ≤ x.f0) : (l.map toTok).map toS = l := by
  rw [List.map_map]
  conv => rhs; rw [← List.map_id l]
  exact List.map_congr_left fun x hx => toS_toTok x (h x hx)
theorem LexBack : quoinlaw15_LexBack.Pure := by
  intro l hl
  refine ⟨30000, ?_⟩
  generalize hK : (30000 : Nat) = k
  unfold quoinlaw15_LexBack.f
  rw [Z.alive_k k (by omega)]
  simp only [Option.bind_some]
  obtain ⟨g, hg, hgf⟩ := great_f l hl.1 k (by omega)
  rw [hg]
  simp only [Option.bind_some]
  obtain ⟨k, rfl⟩ : ∃ m, k = m + 1 := ⟨k - 1, by omega⟩
  cases g with
  | true =>
    rw [if_pos rfl]
    rfl
  | false =>
    obtain ⟨hlen, hsz⟩ := hgf rfl
    have ok : ∀ x ∈ l, okS 20000 x := fun x hx => ⟨(wfu8 (hl.2 x hx).1).1, hsz x hx, wf64 (hl.2 x hx).2.2⟩
    rw [if_neg (by simp)]
    simp only [quoinlaw15_LexBack.j0, Bool.not_true, Bool.false_eq_true, if_false]
    rw [write_f 20000 (by decide) l ok k (by omega)]
    simp only [Option.bind_some]
    by_cases h0 : (writeL (l.map toTok)).2 = 0
    · rw [if_pos (by rw [h0]; rfl)]
      obtain ⟨s, hs⟩ : ∃ s, writeL (l.map toTok) = (s, 0) := ⟨_, Prod.ext rfl h0⟩
      have hn : ∀ t ∈ l.map toTok, numOk t := by
        intro t ht
        obtain ⟨x, hx, rfl⟩ := List.mem_map.1 ht
        exact (ok x hx).2.2
      have ht := tokens_write hs hn
      have hsl : s.length ≤ 256 := by
        by_cases h : 256 < s.length
        · unfold tokensL at ht
          rw [if_pos h] at ht
          exact absurd (congrArg Prod.snd ht) (by simp)
        · omega
      rw [hs, Z.tok_f _ (by rw [size_of]; simp only; omega)]
      simp only [Option.bind_some]
      rw [ht]
      simp only
      rw [if_pos (by rfl), back_map l (fun x hx => (ok x hx).1), same_f l (by omega) k (by omega)]
      rfl
    · rw [if_neg (by omega), write_err h0]
      simp [ByteArray.toList_eq]
end Go.Proofs.YtajnkmandhomlaaDoor.Pure
