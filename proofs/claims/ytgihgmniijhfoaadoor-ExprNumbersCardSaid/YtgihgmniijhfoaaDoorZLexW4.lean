/- lex: what its functions do, walked step by step. -/
import Derived.Test.YtgihgmniijhfoaaDoorZLexW3
import Derived.Test.YtgihgmniijhfoaaDoorZLexPr
namespace Go.Proofs.YtgihgmniijhfoaaDoor.LexW
open Go.RowKit Go.Proofs.YtgihgmniijhfoaaDoor.LexP Go.Proofs.YtgihgmniijhfoaaDoorW.PrintWords Go.Proofs.YtgihgmniijhfoaaDoorW.PrintLast Go.Proofs.YtgihgmniijhfoaaDoorW.PrintMore Go.Proofs.YtgihgmniijhfoaaDoor.Lex
set_option linter.unusedVariables false
set_option linter.unusedSimpArgs false
theorem start_f (c : UInt8) : lex_start.f c.toNat = some (startC c) := by
  have := Go.Proofs.YtgihgmniijhfoaaDoor.Lex.bytes (p := fun c => lex_start.f c.toNat == some (startC c)) (by decide +kernel) c
  simpa using this
theorem digit_f (c : UInt8) : lex_digit.f c.toNat = some (digitC c) := by
  have := Go.Proofs.YtgihgmniijhfoaaDoor.Lex.bytes (p := fun c => lex_digit.f c.toNat == some (digitC c)) (by decide +kernel) c
  simpa using this
theorem inside_f (c : UInt8) : lex_inside.f c.toNat = some (insideC c) := by
  have := Go.Proofs.YtgihgmniijhfoaaDoor.Lex.bytes (p := fun c => lex_inside.f c.toNat == some (insideC c)) (by decide +kernel) c
  simpa using this
theorem mark_f (c : UInt8) : lex_mark.f c.toNat = some (markC c) := by
  have := Go.Proofs.YtgihgmniijhfoaaDoor.Lex.bytes (p := fun c => lex_mark.f c.toNat == some (markC c)) (by decide +kernel) c
  simpa using this
theorem hex_f (c : UInt8) : lex_number_1.f c.toNat = some (hexC c) := by
  have := Go.Proofs.YtgihgmniijhfoaaDoor.Lex.bytes (p := fun c => lex_number_1.f c.toNat == some (hexC c)) (by decide +kernel) c
  simpa using this
theorem bt_lt (s : ByteArray) (i : Nat) (h : i < s.size) : bt s (i : Int) = (s[i].toNat : Int) := by simp [bt, h]
theorem many_drop (p : UInt8 → Bool) (s : ByteArray) (i : Nat) (h : i < s.size) : many p (s.data.toList.drop i) = if p s[i] then many p (s.data.toList.drop (i + 1)) + 1 else 0 := by
  rw [drop_at s i h, many]
theorem wrap_succ {i : Nat} (h : i < 9223372036854775807) : wrap64 ((i : Int) + 1) = ((i + 1 : Nat) : Int) := by unfold wrap64; omega
theorem many_loop {l0 : Nat → ByteArray → Int → Option Int} {q : Int → Option Bool} {p : UInt8 → Bool} (hq : ∀ c : UInt8, q c.toNat = some (p c))
    (hl : ∀ k x0 x5, l0 (k + 1) x0 x5 = if x5 < (x0.size : Int) then (if 0 ≤ x5 then ((q (bt x0 x5)).bind fun t105 => (if t105 = true then (l0 k x0 (wrap64 (x5 + 1))) else (some x5))) else none) else some x5)
    (s : ByteArray) (hs : s.size < 9223372036854775807) : ∀ (d i k : Nat), s.size = i + d → d < k → l0 k s (i : Int) = some ((i + many p (s.data.toList.drop i) : Nat) : Int) := by
  intro d
  induction d with
  | zero =>
    intro i k hi hk
    obtain ⟨k, rfl⟩ : ∃ m, k = m + 1 := ⟨k - 1, by omega⟩
    rw [hl, if_neg (by omega), drop_end s i (by omega)]
    simp [many]
  | succ d ih =>
    intro i k hi hk
    obtain ⟨k, rfl⟩ : ∃ m, k = m + 1 := ⟨k - 1, by omega⟩
    have hlt : i < s.size := by omega
    rw [hl, if_pos (by omega), if_pos (by omega), bt_lt s i hlt, hq, many_drop p s i hlt]
    simp only [Option.bind_some]
    by_cases hp : p s[i] = true
    · rw [if_pos hp, if_pos hp, wrap_succ (by omega), ih (i + 1) k (by omega) (by omega)]
      congr 2
      omega
    · rw [if_neg hp, if_neg hp]
      rfl
theorem many_inside_f (s : ByteArray) (hs : s.size < 9223372036854775807) (k : Nat) (hk : s.size < k) : lex_many_by_lex_inside.f k s = some ((many insideC s.data.toList : Nat) : Int) := by
  have := many_loop inside_f (fun _ _ _ => rfl) s hs s.size 0 k (by omega) hk (l0 := lex_many_by_lex_inside.l0)
  unfold lex_many_by_lex_inside.f
  simpa using this
theorem many_digit_f (s : ByteArray) (hs : s.size < 9223372036854775807) (k : Nat) (hk : s.size < k) : lex_many_by_lex_digit.f k s = some ((many digitC s.data.toList : Nat) : Int) := by
  have := many_loop digit_f (fun _ _ _ => rfl) s hs s.size 0 k (by omega) hk (l0 := lex_many_by_lex_digit.l0)
  unfold lex_many_by_lex_digit.f
  simpa using this
theorem many_hex_f (s : ByteArray) (hs : s.size < 9223372036854775807) (k : Nat) (hk : s.size < k) : lex_many_by_lex_number_1.f k s = some ((many hexC s.data.toList : Nat) : Int) := by
  have := many_loop hex_f (fun _ _ _ => rfl) s hs s.size 0 k (by omega) hk (l0 := lex_many_by_lex_number_1.l0)
  unfold lex_many_by_lex_number_1.f
  simpa using this
theorem size_data (s : ByteArray) : s.data.toList.length = s.size := by rw [Array.length_toList]; rfl
theorem extract_list (s : ByteArray) (a b : Nat) : (s.extract a b).data.toList = (s.data.toList.take b).drop a := by
  simp [ByteArray.data_extract, Array.toList_extract, List.extract_eq_take_drop, List.drop_take]
theorem name_f (s : ByteArray) (hs : s.size < 9223372036854775807) (k : Nat) (hk : s.size < k) : lex_name.f k s = some (nameL s.data.toList) := by
  unfold lex_name.f nameL
  have hsd := size_data s
  cases h : s.data.toList with
  | nil =>
    rw [h] at hsd
    simp only [List.length_nil] at hsd
    rw [if_neg (by omega)]
  | cons c t =>
    rw [h] at hsd
    simp only [List.length_cons] at hsd
    have h0 : 0 < s.size := by omega
    have hc : s[0] = c := by
      have := drop_at s 0 h0
      rw [List.drop_zero, h] at this
      injection this with this
      exact this.symm
    rw [if_pos (by omega)]
    by_cases hl : (s.size : Int) ≤ 32
    · have hb := bt_lt s 0 h0
      rw [hc] at hb
      have he : (s.extract 1 s.size).data.toList = t := by
        rw [extract_list, h, List.take_of_length_le (by simp only [List.length_cons]; omega)]
        rfl
      have hes : (s.extract 1 s.size).size = t.length := by rw [← size_data, he]
      have hm := many_inside_f (s.extract 1 s.size) (by omega) k (by omega)
      rw [he] at hm
      rw [if_pos hl, if_pos (by omega), show bt s 0 = (c.toNat : Int) from hb, start_f, hm]
      simp only [Option.bind_some]
      have hw : wrap64 ((s.size : Int) - 1) = (t.length : Int) := by unfold wrap64; omega
      have e1 : decide (t.length < 32) = true := decide_eq_true (by omega)
      rw [if_pos (by omega : (1 : Int) ≤ s.size), hw, e1]
      by_cases hs : startC c = true
      · rw [if_pos hs, hs]
        congr 1
        by_cases hm : many insideC t = t.length
        · simp [hm]
        · have : ¬ ((many insideC t : Nat) : Int) = (t.length : Int) := fun h => hm (Int.ofNat_inj.1 h)
          simp [hm, this]
      · rw [if_neg hs]
        simp [hs]
    · rw [if_neg hl]
      have e1 : decide (t.length < 32) = false := decide_eq_false (by omega)
      simp [e1]
theorem local_f (s : ByteArray) (hs : s.size < 9223372036854775807) (k : Nat) (hk : s.size < k) : lex_local.f k s = some (localL s.data.toList) := by
  unfold lex_local.f localL
  have hsd := size_data s
  rw [many_digit_f s hs k hk]
  simp only [Option.bind_some]
  have hle := many_le (p := digitC) s.data.toList
  generalize hn : many digitC s.data.toList = n at *
  by_cases h1 : 1 ≤ n
  · rw [if_pos (by omega), decide_eq_true h1]
    by_cases h9 : n ≤ 9
    · rw [if_pos (by omega), decide_eq_true h9]
      by_cases hl : s.data.toList.length = n + 1
      · have hw : wrap64 ((n : Int) + 1) = ((n + 1 : Nat) : Int) := wrap_succ (by omega)
        rw [if_pos (by rw [hw]; omega), if_pos (by omega), if_pos (by omega), decide_eq_true hl]
        have hlt : n < s.size := by omega
        have hg : s.data.toList.getD n 0 = s[n] := by
          have : n < s.data.toList.length := by omega
          simp [List.getD, List.getElem?_eq_getElem this]
          rfl
        rw [bt_lt s n hlt, hg]
        generalize s[n] = c
        have := Go.Proofs.YtgihgmniijhfoaaDoor.Lex.bytes (p := fun c => (if (c.toNat : Int) = 102 then some true else some ((c.toNat : Int) == 98)) == some (true && true && true && (c == 102 || c == 98))) (by decide +kernel) c
        simpa using this
      · have hw : wrap64 ((n : Int) + 1) = ((n + 1 : Nat) : Int) := wrap_succ (by omega)
        rw [if_neg (by rw [hw]; omega), decide_eq_false hl]
        simp
    · rw [if_neg (by omega), decide_eq_false h9]
      simp
  · rw [if_neg (by omega), decide_eq_false h1]
    rfl
end Go.Proofs.YtgihgmniijhfoaaDoor.LexW
