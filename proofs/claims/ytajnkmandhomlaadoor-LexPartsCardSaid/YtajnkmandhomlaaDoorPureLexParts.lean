/- Two lines, one behind the other, are read as the words of the one and of the other. -/
import Derived.Test.YtajnkmandhomlaaDoorPx4
import Derived.Test.YtajnkmandhomlaaDoorZLexTok
namespace Go.Proofs.YtajnkmandhomlaaDoor.Pure
open Go.RowKit Go.Proofs.YtajnkmandhomlaaDoor.P Go.Proofs.YtajnkmandhomlaaDoor.Z Go.Proofs.YtajnkmandhomlaaDoor.Lex Go.Proofs.YtajnkmandhomlaaDoorW.PrintWords Go.Proofs.YtajnkmandhomlaaDoorW.PrintLast
set_option linter.unusedSimpArgs false
set_option linter.unusedVariables false

theorem loop1 (x y : List S23) (hx : x.length + y.length ≤ 1000) : ∀ (d i k : Nat), (x ++ y).length = i + d → d < k → quoinlaw15_LexParts.l1 k x y (x ++ y) (i : Int) = some true := by
  have hl : (x ++ y).length = x.length + y.length := List.length_append
  intro d
  induction d with
  | zero =>
    intro i k hi hk
    obtain ⟨k, rfl⟩ : ∃ m, k = m + 1 := ⟨k - 1, by omega⟩
    simp only [quoinlaw15_LexParts.l1]
    rw [if_neg (by omega)]
  | succ d ih =>
    intro i k hi hk
    obtain ⟨k, rfl⟩ : ∃ m, k = m + 1 := ⟨k - 1, by omega⟩
    simp only [quoinlaw15_LexParts.l1]
    rw [if_pos (by omega)]
    by_cases h : i < x.length
    · rw [if_pos (by omega), if_pos (by omega), rd_left x y i h, if_neg (tok_same _), if_neg (by omega), wrap_up (by omega)]
      exact ih (i + 1) k (by omega) (by omega)
    · have hw : wrap64 ((i : Int) - (x.length : Int)) = ((i - x.length : Nat) : Int) := by unfold wrap64; omega
      rw [if_neg (by omega), if_pos (by omega), if_pos (by omega), hw, if_pos (by omega), if_pos (by omega), rd_right x y i (by omega), if_neg (tok_same _), wrap_up (by omega)]
      exact ih (i + 1) k (by omega) (by omega)
/-- The look for a remark: there is one, or the two lines are read. -/
theorem loop0 (a b : ByteArray) (ha : a.size ≤ 1000) : ∀ (d i k : Nat), a.size = i + d → d < k →
    (quoinlaw15_LexParts.l0 k a b true (i : Int) = some true ∧ (35 : UInt8) ∈ a.data.toList.drop i) ∨ ((35 : UInt8) ∉ a.data.toList.drop i ∧ quoinlaw15_LexParts.l0 k a b true (i : Int) = quoinlaw15_LexParts.l0 (k - d) a b true (a.size : Int)) := by
  intro d
  induction d with
  | zero =>
    intro i k hi hk
    refine .inr ⟨?_, by rw [hi]; rfl⟩
    rw [List.drop_eq_nil_of_le (by rw [size_len]; omega)]
    simp
  | succ d ih =>
    intro i k hi hk
    obtain ⟨k, rfl⟩ : ∃ m, k = m + 1 := ⟨k - 1, by omega⟩
    have hlt : i < a.data.toList.length := by rw [size_len]; omega
    have hb : bt a (i : Int) = (a.data.toList[i].toNat : Int) := by
      have : i < a.size := by omega
      simp [bt, this]
      rfl
    have e : quoinlaw15_LexParts.l0 (k + 1) a b true (i : Int) = if bt a (i : Int) = 35 then some true else quoinlaw15_LexParts.l0 k a b true (wrap64 ((i : Int) + 1)) := by
      simp only [quoinlaw15_LexParts.l0]
      rw [if_pos (by omega), if_pos (by omega)]
    rw [e, hb, List.drop_eq_getElem_cons hlt]
    by_cases h : a.data.toList[i] = 35
    · rw [if_pos (by rw [h]; rfl)]
      exact .inl ⟨rfl, by simp [h]⟩
    · rw [if_neg (show ¬ ((a.data.toList[i].toNat : Nat) : Int) = 35 from fun h' => h (UInt8.toNat_inj.1 (Int.ofNat_inj.1 h'))), wrap_up (by omega)]
      rcases ih (i + 1) k (by omega) (by omega) with ⟨h1, h2⟩ | ⟨h1, h2⟩
      · exact .inl ⟨h1, List.mem_cons_of_mem _ h2⟩
      · exact .inr ⟨fun hm => (List.mem_cons.1 hm).elim (fun e => h e.symm) h1, by rw [h2]; congr 1; omega⟩
theorem LexParts : quoinlaw15_LexParts.Pure := by
  intro a b ha hb
  refine ⟨3000, ?_⟩
  unfold quoinlaw15_LexParts.f
  rw [alive_k 3000 (by decide)]
  simp only [Option.bind_some]
  by_cases h1 : (a.size : Int) > 1000
  · rw [if_pos h1]; rfl
  rw [if_neg h1]
  by_cases h2 : (b.size : Int) > 1000
  · rw [if_pos h2]; rfl
  rw [if_neg h2]
  have hw : wrap64 (wrap64 ((a.size : Int) + (b.size : Int)) + 1) = (a.size : Int) + b.size + 1 := by unfold wrap64; omega
  rw [hw]
  by_cases h3 : (a.size : Int) + b.size + 1 > 256
  · rw [if_pos h3]; rfl
  rw [if_neg h3]
  have e0 : quoinlaw15_LexParts.j0 3000 a b true (!true) = quoinlaw15_LexParts.l0 2999 a b true 0 := by
    simp only [quoinlaw15_LexParts.j0]
    rw [if_neg (by simp)]
  rw [e0]
  rcases loop0 a b (by omega) a.size 0 2999 (by omega) (by omega) with ⟨h, _⟩ | ⟨hno, h⟩
  · exact h
  rw [List.drop_zero] at hno
  rw [show (0 : Int) = ((0 : Nat) : Int) from rfl, h]
  obtain ⟨k, hk, hk2⟩ : ∃ m, 2999 - a.size = m + 1 ∧ 2000 ≤ m := ⟨2999 - a.size - 1, by omega, by omega⟩
  rw [hk]
  simp only [quoinlaw15_LexParts.l0]
  rw [if_neg (by omega), tok_f a (by omega), tok_f b (by omega)]
  simp only [Option.bind_some]
  have e1 : (⟨#[32]⟩ : ByteArray).size = 1 := rfl
  rw [if_pos (by omega), if_pos (by rw [ByteArray.size_append, e1]; omega)]
  have hsz : ((a ++ (⟨#[32]⟩ : ByteArray)) ++ b).size = a.size + 1 + b.size := by rw [ByteArray.size_append, ByteArray.size_append, e1]
  have hl : ((a ++ (⟨#[32]⟩ : ByteArray)) ++ b).data.toList = a.data.toList ++ 32 :: b.data.toList := by simp [ByteArray.data_append]
  rw [tok_f _ (by rw [hsz]; omega), hl]
  simp only [Option.bind_some]
  obtain ⟨k, rfl⟩ : ∃ m, k = m + 2 := ⟨k - 2, by omega⟩
  by_cases ea : (tokensL a.data.toList).2 = 0
  · rw [if_pos (by rw [ea]; rfl)]
    by_cases eb : (tokensL b.data.toList).2 = 0
    · obtain ⟨x, hx⟩ : ∃ x, tokensL a.data.toList = (x, 0) := ⟨_, Prod.ext rfl ea⟩
      obtain ⟨y, hy⟩ : ∃ y, tokensL b.data.toList = (y, 0) := ⟨_, Prod.ext rfl eb⟩
      have hp := tokens_parts hx hy hno (by rw [size_len, size_len]; omega)
      have mx := (tokens_may hx).2
      have my := (tokens_may hy).2
      rw [hp, hx, hy]
      have hq : (((0 : Nat) : Int) != 0) = false := rfl
      simp only [quoinlaw15_LexParts.j2, hq, Bool.false_eq_true, if_false]
      by_cases h64 : x.length + y.length ≤ 64
      · rw [if_pos h64, if_pos (by rfl)]
        have hw2 : wrap64 (((x.map toS).length : Int) + ((y.map toS).length : Int)) = (((x ++ y).map toS).length : Int) := by
          rw [map_len, map_len, map_len, List.length_append]
          unfold wrap64
          omega
        rw [hw2, bne_self_eq_false]
        simp only [quoinlaw15_LexParts.j3, Bool.false_eq_true, if_false]
        rw [List.map_append]
        exact loop1 (x.map toS) (y.map toS) (by rw [map_len, map_len]; omega) (x.map toS ++ y.map toS).length 0 k (by omega) (by rw [List.length_append, map_len, map_len]; omega)
      · rw [if_neg h64, if_neg (by decide)]
        rfl
    · have hne : (((tokensL b.data.toList).2 : Int) != 0) = true := bne_iff_ne.2 (by omega)
      rw [hne]
      rfl
  · rw [if_neg (by omega)]
    rfl
end Go.Proofs.YtajnkmandhomlaaDoor.Pure
