/- Blanks and remarks change nothing of a line's words. -/
import Derived.Test.YtajnkmandhomlaaDoorPx3
import Derived.Test.YtajnkmandhomlaaDoorZLexTok
namespace Go.Proofs.YtajnkmandhomlaaDoor.Pure
open Go.RowKit Go.Proofs.YtajnkmandhomlaaDoor.P Go.Proofs.YtajnkmandhomlaaDoor.Z Go.Proofs.YtajnkmandhomlaaDoor.Lex Go.Proofs.YtajnkmandhomlaaDoorW.PrintWords Go.Proofs.YtajnkmandhomlaaDoorW.PrintLast
set_option linter.unusedSimpArgs false
set_option linter.unusedVariables false

theorem loop0 (x : List S23) (hx : x.length ≤ 1000) : ∀ (d i k : Nat), x.length = i + d → d < k → quoinlaw15_LexBlanks.l0 k x x (i : Int) = some true := by
  intro d
  induction d with
  | zero =>
    intro i k hi hk
    obtain ⟨k, rfl⟩ : ∃ m, k = m + 1 := ⟨k - 1, by omega⟩
    simp only [quoinlaw15_LexBlanks.l0]
    rw [if_neg (by omega)]
  | succ d ih =>
    intro i k hi hk
    obtain ⟨k, rfl⟩ : ∃ m, k = m + 1 := ⟨k - 1, by omega⟩
    simp only [quoinlaw15_LexBlanks.l0]
    rw [if_pos (by omega), if_pos (by omega), if_pos (by omega), if_neg (tok_same _), wrap_up (by omega)]
    exact ih (i + 1) k (by omega) (by omega)
theorem LexBlanks : quoinlaw15_LexBlanks.Pure := by
  intro a ha
  refine ⟨400, ?_⟩
  unfold quoinlaw15_LexBlanks.f
  rw [alive_k 400 (by decide)]
  simp only [Option.bind_some]
  by_cases h : (a.size : Int) > 1000
  · rw [if_pos h]
    rfl
  rw [if_neg h]
  have hsd := size_len a
  simp only [quoinlaw15_LexBlanks.j0, Bool.not_true, Bool.false_eq_true, if_false]
  rw [tok_f a (by omega)]
  simp only [Option.bind_some]
  have e2 : (⟨#[32, 9]⟩ : ByteArray).size = 2 := rfl
  have e17 : (⟨#[32, 9, 35, 32, 97, 32, 114, 101, 109, 97, 114, 107, 58, 32, 34, 32, 44]⟩ : ByteArray).size = 17 := rfl
  rw [if_pos (by omega), if_pos (by rw [ByteArray.size_append, e2]; omega)]
  have hsz : (((⟨#[32, 9]⟩ : ByteArray) ++ a) ++ (⟨#[32, 9, 35, 32, 97, 32, 114, 101, 109, 97, 114, 107, 58, 32, 34, 32, 44]⟩ : ByteArray)).size = 2 + a.size + 17 := by rw [ByteArray.size_append, ByteArray.size_append, e2, e17]
  have hl : (((⟨#[32, 9]⟩ : ByteArray) ++ a) ++ (⟨#[32, 9, 35, 32, 97, 32, 114, 101, 109, 97, 114, 107, 58, 32, 34, 32, 44]⟩ : ByteArray)).data.toList = 32 :: 9 :: (a.data.toList ++ 32 :: 9 :: 35 :: [32, 97, 32, 114, 101, 109, 97, 114, 107, 58, 32, 34, 32, 44]) := by
    simp [ByteArray.data_append]
  rw [tok_f _ (by rw [hsz]; omega), hl, hsz]
  simp only [Option.bind_some]
  by_cases h0 : (tokensL a.data.toList).2 = 0
  · rw [if_pos (by rw [h0]; rfl)]
    by_cases hbig : (((2 + a.size + 17 : Nat) : Int)) > 256
    · rw [decide_eq_true hbig]
      rfl
    · rw [decide_eq_false hbig]
      obtain ⟨x, hx⟩ : ∃ x, tokensL a.data.toList = (x, 0) := ⟨_, Prod.ext rfl h0⟩
      have hb := tokens_blanks [32, 97, 32, 114, 101, 109, 97, 114, 107, 58, 32, 34, 32, 44] hx (by simp only [List.length_cons, List.length_append, List.length_nil]; omega)
      have hm := (tokens_may hx).2
      rw [hb, hx]
      simp only [quoinlaw15_LexBlanks.j1, quoinlaw15_LexBlanks.j2, Bool.false_eq_true, if_false]
      rw [if_pos (show ((0 : Nat) : Int) = 0 from rfl)]
      have hne : (((x.map toS).length : Int) != ((x.map toS).length : Int)) = false := bne_self_eq_false _
      rw [hne, if_neg (by simp)]
      exact loop0 (x.map toS) (by rw [map_len]; omega) (x.map toS).length 0 _ (by omega) (by rw [map_len]; omega)
  · rw [if_neg (by omega)]
    rfl
end Go.Proofs.YtajnkmandhomlaaDoor.Pure
