/- What is read may be, and, written where there is room, is read as the same. -/
import Derived.Test.YtajnkmandhomlaaDoorPx16
import Derived.Test.YtajnkmandhomlaaDoorZLexWr
import Derived.Test.YtajnkmandhomlaaDoorZLexTok
namespace Go.Proofs.YtajnkmandhomlaaDoor.Pure
open Go.RowKit Go.Proofs.YtajnkmandhomlaaDoor.P Go.Proofs.YtajnkmandhomlaaDoor.Lex Go.Proofs.YtajnkmandhomlaaDoor.ZT Go.Proofs.YtajnkmandhomlaaDoorW.PrintWords Go.Proofs.YtajnkmandhomlaaDoorW.PrintLast
set_option linter.unusedSimpArgs false
set_option linter.unusedVariables false

theorem toTok_toS (x : Tok) : toTok (toS x) = x := by
  obtain ⟨a, b, c⟩ := x
  simp [toS, toTok]
theorem on_map (l : List Tok) : (l.map toS).map toTok = l := by
  rw [List.map_map]
  conv => rhs; rw [← List.map_id l]
  exact List.map_congr_left fun x hx => toTok_toS x
theorem text_le {x : Tok} (h : mayL x = true) : x.t.length ≤ 256 := by
  unfold mayL textL at h
  split at h
  · simp only [Bool.and_eq_true, Bool.or_eq_true] at h
    rcases h.2 with h | h
    · obtain ⟨c, t, e, h32, _, _⟩ := nameL_cons h
      rw [e]
      simp only [List.length_cons]
      omega
    · have := local_facts h
      omega
  split at h
  · simp only [Bool.and_eq_true, decide_eq_true_eq] at h
    omega
  split at h
  · split at h
    · simp at h
    · simp only [Bool.and_eq_true, decide_eq_true_eq] at h
      exact h.2
  split at h
  · split at h
    · simp only [decide_eq_true_eq] at h
      rw [h]
      simp
    · simp only [decide_eq_true_eq] at h
      rw [h]
      simp
  · simp at h
theorem check_loop (x : List Tok) (hx : x.length ≤ 64) (hm : ∀ t ∈ x, mayL t = true ∧ numOk t) (ok : ∀ t ∈ x.map toS, okS 1000 t) (v : Option Bool) (K : Nat) (hK : 2000 ≤ K) 
    (hv : ∀ k, K ≤ k → (lex_Write.f k (x.map toS)).bind (fun bt308 => if bt308.2 = 0 then ((lex_Tokens.f bt308.1).bind fun bt310 => (if bt310.2 = 0 then ((quoinref15_Same.f k bt310.1 (x.map toS)).bind fun t314 => (some t314)) else (none))) else (some (bt308.2 == 3))) = v) :
    ∀ (d i k : Nat), x.length = i + d → K + d < k → quoinlaw15_LexAgain.l0 k (x.map toS) (i : Int) = v := by
  intro d
  induction d with
  | zero =>
    intro i k hi hk
    obtain ⟨k, rfl⟩ : ∃ m, k = m + 1 := ⟨k - 1, by omega⟩
    simp only [quoinlaw15_LexAgain.l0]
    rw [if_neg (by rw [List.length_map]; omega)]
    exact hv k (by omega)
  | succ d ih =>
    intro i k hi hk
    obtain ⟨k, rfl⟩ : ∃ m, k = m + 1 := ⟨k - 1, by omega⟩
    have hlt : i < x.length := by omega
    simp only [quoinlaw15_LexAgain.l0]
    have hlm : i < (x.map toS).length := by rw [List.length_map]; omega
    have hc := check_f (x.map toS)[i] 1000 (by decide) (ok _ (List.getElem_mem hlm)) k (by omega)
    rw [if_pos (by rw [List.length_map]; omega), if_pos (by omega), rd_at _ i (by rw [List.length_map]; omega), hc]
    simp only [Option.bind_some]
    rw [List.getElem_map, toTok_toS, if_pos (hm _ (List.getElem_mem hlt)).1, if_pos rfl, wrap_succ (by omega)]
    exact ih (i + 1) k (by omega) (by omega)
theorem LexAgain : quoinlaw15_LexAgain.Pure := by
  intro a ha
  refine ⟨30000, ?_⟩
  generalize hK : (30000 : Nat) = k
  unfold quoinlaw15_LexAgain.f
  rw [Z.alive_k k (by omega)]
  simp only [Option.bind_some]
  obtain ⟨k, rfl⟩ : ∃ m, k = m + 1 := ⟨k - 1, by omega⟩
  by_cases h : (a.size : Int) > 5000
  · rw [if_pos h]
    rfl
  rw [if_neg h]
  simp only [quoinlaw15_LexAgain.j0, Bool.not_true, Bool.false_eq_true, if_false]
  rw [Z.tok_f a (by omega)]
  simp only [Option.bind_some]
  by_cases h0 : (tokensL a.data.toList).2 = 0
  · rw [if_pos (by rw [h0]; rfl)]
    obtain ⟨x, hx⟩ : ∃ x, tokensL a.data.toList = (x, 0) := ⟨_, Prod.ext rfl h0⟩
    have hm := tokens_may hx
    have ok : ∀ t ∈ x.map toS, okS 1000 t := by
      intro t ht
      obtain ⟨y, hy, rfl⟩ := List.mem_map.1 ht
      refine ⟨by simp [toS], ?_, by rw [toTok_toS]; exact (hm.1 y hy).2⟩
      have := text_le (hm.1 y hy).1
      rw [← size_data]
      show y.t.length ≤ 1000
      omega
    rw [hx]
    refine check_loop x hm.2 hm.1 ok (some true) 2000 (by decide) (fun k hk => ?_) x.length 0 k (by omega) (by have := hm.2; omega)
    rw [write_f 1000 (by decide) _ ok k (by omega), on_map]
    simp only [Option.bind_some]
    rcases write_tokens hx with hw | hw
    · rw [if_pos (by rw [hw]; rfl)]
      obtain ⟨s, hs⟩ : ∃ s, writeL x = (s, 0) := ⟨_, Prod.ext rfl hw⟩
      have ht := tokens_write hs (fun t ht => (hm.1 t ht).2)
      have hsl : s.length ≤ 256 := by
        by_cases h : 256 < s.length
        · unfold tokensL at ht
          rw [if_pos h] at ht
          exact absurd (congrArg Prod.snd ht) (by simp)
        · omega
      rw [hs, Z.tok_f _ (by rw [size_of]; simp only; omega)]
      simp only [Option.bind_some]
      rw [ht]
      simp only
      have h64 := hm.2
      rw [if_pos (by rfl), same_f _ (by rw [List.length_map]; omega) k (by rw [List.length_map]; omega)]
      rfl
    · rw [if_neg (by rw [hw]; decide), hw]
      rfl
  · rw [if_neg (by omega), tokens_err h0]
    rfl
end Go.Proofs.YtajnkmandhomlaaDoor.Pure
