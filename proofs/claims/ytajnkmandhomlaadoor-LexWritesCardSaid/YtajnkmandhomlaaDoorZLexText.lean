/- What the printed functions of a word's text compute, on lists of bytes. -/
import Derived.Test.YtajnkmandhomlaaDoorPx5
import Derived.Test.YtajnkmandhomlaaDoorPx6
import Derived.Test.YtajnkmandhomlaaDoorPx7
import Derived.Test.YtajnkmandhomlaaDoorZLexW9
namespace Go.Proofs.YtajnkmandhomlaaDoor.ZT
open Go.RowKit Go.Proofs.YtajnkmandhomlaaDoor.P Go.Proofs.YtajnkmandhomlaaDoorW.PrintWords Go.Proofs.YtajnkmandhomlaaDoorW.PrintLast Go.Proofs.YtajnkmandhomlaaDoorW.PrintMore Go.Proofs.YtajnkmandhomlaaDoor.Lex
set_option linter.unusedVariables false
set_option linter.unusedSimpArgs false
theorem start_f (c : UInt8) : lex_start.f c.toNat = some (startC c) := by
  have := Go.Proofs.YtajnkmandhomlaaDoor.Lex.bytes (p := fun c => lex_start.f c.toNat == some (startC c)) (by decide +kernel) c
  simpa using this
theorem digit_f (c : UInt8) : lex_digit.f c.toNat = some (digitC c) := by
  have := Go.Proofs.YtajnkmandhomlaaDoor.Lex.bytes (p := fun c => lex_digit.f c.toNat == some (digitC c)) (by decide +kernel) c
  simpa using this
theorem inside_f (c : UInt8) : lex_inside.f c.toNat = some (insideC c) := by
  have := Go.Proofs.YtajnkmandhomlaaDoor.Lex.bytes (p := fun c => lex_inside.f c.toNat == some (insideC c)) (by decide +kernel) c
  simpa using this
theorem mark_f (c : UInt8) : lex_mark.f c.toNat = some (markC c) := by
  have := Go.Proofs.YtajnkmandhomlaaDoor.Lex.bytes (p := fun c => lex_mark.f c.toNat == some (markC c)) (by decide +kernel) c
  simpa using this
theorem bt_lt (s : ByteArray) (i : Nat) (h : i < s.size) : bt s (i : Int) = (s[i].toNat : Int) := by simp [bt, h]
theorem many_drop (p : UInt8 → Bool) (s : ByteArray) (i : Nat) (h : i < s.size) : many p (s.data.toList.drop i) = if p s[i] then many p (s.data.toList.drop (i + 1)) + 1 else 0 := by
  rw [LexW.drop_at s i h, many]
theorem wrap_succ {i : Nat} (h : i < 9223372036854775807) : wrap64 ((i : Int) + 1) = ((i + 1 : Nat) : Int) := by unfold wrap64; omega
theorem many_loop {l0 : Nat → ByteArray → Int → Option Int} {q : Int → Option Bool} {p : UInt8 → Bool} (hq : ∀ c : UInt8, q c.toNat = some (p c))
    (hl : ∀ k x0 x5, l0 (k + 1) x0 x5 = if x5 < (x0.size : Int) then (if 0 ≤ x5 then ((q (bt x0 x5)).bind fun t105 => (if t105 = true then (l0 k x0 (wrap64 (x5 + 1))) else (some x5))) else none) else some x5)
    (s : ByteArray) (hs : s.size < 9223372036854775807) : ∀ (d i k : Nat), s.size = i + d → d < k → l0 k s (i : Int) = some ((i + many p (s.data.toList.drop i) : Nat) : Int) := by
  intro d
  induction d with
  | zero =>
    intro i k hi hk
    obtain ⟨k, rfl⟩ : ∃ m, k = m + 1 := ⟨k - 1, by omega⟩
    rw [hl, if_neg (by omega), LexW.drop_end s i (by omega)]
    simp [many]
  | succ d ih =>
    intro i k hi hk
    obtain ⟨k, rfl⟩ : ∃ m, k = m + 1 := ⟨k - 1, by omega⟩
    have hlt : i < s.size := by omega
    rw [hl, if_pos (by omega), if_pos (by omega), bt_lt s i hlt, hq, many_drop p s i hlt]
    simp only [Option.bind_some]
    by_cases hp : p s[i] = true
    · rw [if_pos hp, if_pos hp, wrap_succ (by omega), ih (i + 1) k (by omega) (by omega)]
      congr 2
      omega
    · rw [if_neg hp, if_neg hp]
      rfl
theorem many_inside_f (s : ByteArray) (hs : s.size < 9223372036854775807) (k : Nat) (hk : s.size < k) : lex_many_by_lex_inside.f k s = some ((many insideC s.data.toList : Nat) : Int) := by
  have := many_loop inside_f (fun _ _ _ => rfl) s hs s.size 0 k (by omega) hk (l0 := lex_many_by_lex_inside.l0)
  unfold lex_many_by_lex_inside.f
  simpa using this
theorem many_digit_f (s : ByteArray) (hs : s.size < 9223372036854775807) (k : Nat) (hk : s.size < k) : lex_many_by_lex_digit.f k s = some ((many digitC s.data.toList : Nat) : Int) := by
  have := many_loop digit_f (fun _ _ _ => rfl) s hs s.size 0 k (by omega) hk (l0 := lex_many_by_lex_digit.l0)
  unfold lex_many_by_lex_digit.f
  simpa using this
theorem size_data (s : ByteArray) : s.data.toList.length = s.size := by rw [Array.length_toList]; rfl
theorem extract_list (s : ByteArray) (a b : Nat) : (s.extract a b).data.toList = (s.data.toList.take b).drop a := by
  simp [ByteArray.data_extract, Array.toList_extract, List.extract_eq_take_drop, List.drop_take]
theorem name_f (s : ByteArray) (hs : s.size < 9223372036854775807) (k : Nat) (hk : s.size < k) : lex_name.f k s = some (nameL s.data.toList) := by
  unfold lex_name.f nameL
  have hsd := size_data s
  cases h : s.data.toList with
  | nil =>
    rw [h] at hsd
    simp only [List.length_nil] at hsd
    rw [if_neg (by omega)]
  | cons c t =>
    rw [h] at hsd
    simp only [List.length_cons] at hsd
    have h0 : 0 < s.size := by omega
    have hc : s[0] = c := by
      have := LexW.drop_at s 0 h0
      rw [List.drop_zero, h] at this
      injection this with this
      exact this.symm
    rw [if_pos (by omega)]
    by_cases hl : (s.size : Int) ≤ 32
    · have hb := bt_lt s 0 h0
      rw [hc] at hb
      have he : (s.extract 1 s.size).data.toList = t := by
        rw [extract_list, h, List.take_of_length_le (by simp only [List.length_cons]; omega)]
        rfl
      have hes : (s.extract 1 s.size).size = t.length := by rw [← size_data, he]
      have hm := many_inside_f (s.extract 1 s.size) (by omega) k (by omega)
      rw [he] at hm
      rw [if_pos hl, if_pos (by omega), show bt s 0 = (c.toNat : Int) from hb, start_f, hm]
      simp only [Option.bind_some]
      have hw : wrap64 ((s.size : Int) - 1) = (t.length : Int) := by unfold wrap64; omega
      have e1 : decide (t.length < 32) = true := decide_eq_true (by omega)
      rw [if_pos (by omega : (1 : Int) ≤ s.size), hw, e1]
      by_cases hs : startC c = true
      · rw [if_pos hs, hs]
        congr 1
        by_cases hm : many insideC t = t.length
        · simp [hm]
        · have : ¬ ((many insideC t : Nat) : Int) = (t.length : Int) := fun h => hm (Int.ofNat_inj.1 h)
          simp [hm, this]
      · rw [if_neg hs]
        simp [hs]
    · rw [if_neg hl]
      have e1 : decide (t.length < 32) = false := decide_eq_false (by omega)
      simp [e1]
theorem local_f (s : ByteArray) (hs : s.size < 9223372036854775807) (k : Nat) (hk : s.size < k) : lex_local.f k s = some (localL s.data.toList) := by
  unfold lex_local.f localL
  have hsd := size_data s
  rw [many_digit_f s hs k hk]
  simp only [Option.bind_some]
  have hle := many_le (p := digitC) s.data.toList
  generalize hn : many digitC s.data.toList = n at *
  by_cases h1 : 1 ≤ n
  · rw [if_pos (by omega), decide_eq_true h1]
    by_cases h9 : n ≤ 9
    · rw [if_pos (by omega), decide_eq_true h9]
      by_cases hl : s.data.toList.length = n + 1
      · have hw : wrap64 ((n : Int) + 1) = ((n + 1 : Nat) : Int) := wrap_succ (by omega)
        rw [if_pos (by rw [hw]; omega), if_pos (by omega), if_pos (by omega), decide_eq_true hl]
        have hlt : n < s.size := by omega
        have hg : s.data.toList.getD n 0 = s[n] := by
          have : n < s.data.toList.length := by omega
          simp [List.getD, List.getElem?_eq_getElem this]
          rfl
        rw [bt_lt s n hlt, hg]
        generalize s[n] = c
        have := Go.Proofs.YtajnkmandhomlaaDoor.Lex.bytes (p := fun c => (if (c.toNat : Int) = 102 then some true else some ((c.toNat : Int) == 98)) == some (true && true && true && (c == 102 || c == 98))) (by decide +kernel) c
        simpa using this
      · have hw : wrap64 ((n : Int) + 1) = ((n + 1 : Nat) : Int) := wrap_succ (by omega)
        rw [if_neg (by rw [hw]; omega), decide_eq_false hl]
        simp
    · rw [if_neg (by omega), decide_eq_false h9]
      simp
  · rw [if_neg (by omega), decide_eq_false h1]
    rfl
def toTok (x : S23) : Tok := ⟨x.f0.toNat, x.f1.data.toList, x.f2⟩
theorem arr_back (s : ByteArray) : (⟨s.data.toList.toArray⟩ : ByteArray) = s := by simp
theorem dec_itoa (n : Nat) : Lib.itoa (n : Int) = decL n := by
  rw [Lib.itoa_nonneg]
  induction n using Nat.strongRecOn with
  | _ n ih =>
    rw [Lib.decDigits, decL]
    by_cases h : n < 10
    · rw [dif_pos h, if_pos h]
      rfl
    · rw [dif_neg h, if_neg h, ih (n / 10) (by omega)]
      rfl
theorem hex_size (n : Nat) (h : n < 18446744073709551616) : 1 ≤ (LexW.hexL n).length ∧ (LexW.hexL n).length ≤ 16 := by
  refine ⟨?_, (LexW.hexL_pad 15 n (by omega)).2⟩
  rw [LexW.hexL]
  split <;> simp
theorem size_of (l : List UInt8) : (⟨l.toArray⟩ : ByteArray).size = l.length := by rw [← size_data]
theorem rep_f (n : Nat) (h : n ≤ 1000000) : strings_Repeat.f (⟨#[48]⟩ : ByteArray) (n : Int) = some ⟨(List.replicate n 48).toArray⟩ := by
  unfold strings_Repeat.f
  have e1 : (⟨#[48]⟩ : ByteArray).size = 1 := rfl
  rw [if_pos ⟨by omega, by omega, by omega⟩, Int.toNat_natCast]
  have : (⟨#[48]⟩ : ByteArray).data.toList = List.replicate 1 48 := rfl
  rw [this, Lib.repeatL_replicate, Nat.mul_one]
theorem wrapU (n : Int) (h0 : -9223372036854775808 ≤ n) (h1 : n < 9223372036854775808) : IntKind.u64.wrap n = (ofI64 n : Int) := by
  unfold ofI64
  rw [IntKind.wrap_u64]
  omega
theorem decide_nil (s : ByteArray) : (s.toList == ([] : List UInt8)) = decide (s.data.toList = []) := by
  rw [ByteArray.toList_eq]
  cases s.data.toList <;> rfl
theorem text_f (x : S23) (h0 : 0 ≤ x.f0) (hs : x.f1.size ≤ 100000000000) (hn : numOk (toTok x)) (k : Nat) (hk : x.f1.size + 1 < k) :
    lex_text.f k x.f0 x.f1 x.f2 = some (⟨(textL (toTok x)).1.toArray⟩, (textL (toTok x)).2) := by
  obtain ⟨a, s, n⟩ := x
  simp only [toTok] at *
  unfold lex_text.f textL
  simp only
  by_cases h1 : a = 1
  · subst h1
    rw [if_pos rfl, if_pos (show (1 : Int).toNat = 1 from rfl)]
    by_cases hz : n = 0
    · rw [if_pos hz, name_f s (by omega) k (by omega), local_f s (by omega) k (by omega), decide_eq_true hz]
      simp only [Option.bind_some]
      cases nameL s.data.toList <;> cases localL s.data.toList <;> simp
    · rw [if_neg hz, decide_eq_false hz]
      simp
  rw [if_neg h1, if_neg (show ¬ a.toNat = 1 by omega)]
  by_cases h4 : a = 4
  · subst h4
    rw [if_pos rfl, if_pos (show (4 : Int).toNat = 4 from rfl)]
    by_cases hz : n = 0
    · rw [if_pos hz, decide_eq_true hz]
      by_cases hl : (s.size : Int) = 1
      · have h1 : 0 < s.size := by omega
        have hg : s.data.toList.getD 0 0 = s[0] := by
          have : 0 < s.data.toList.length := by rw [size_data]; exact h1
          simp [List.getD, List.getElem?_eq_getElem this]
          rfl
        rw [if_pos hl, if_pos (by omega), show bt s 0 = (s[0].toNat : Int) from bt_lt s 0 h1, mark_f, hg, decide_eq_true (by rw [size_data]; omega)]
        simp
      · rw [if_neg hl, decide_eq_false (by rw [size_data]; omega)]
        simp
    · rw [if_neg hz, decide_eq_false hz]
      simp
  rw [if_neg h4, if_neg (show ¬ a.toNat = 4 by omega)]
  by_cases h3 : a = 3
  · subst h3
    rw [if_pos rfl, if_pos (show (3 : Int).toNat = 3 from rfl)]
    unfold lex_shown.f
    rw [if_pos hs, LexW.shownF]
    simp only [Option.bind_some]
    cases shownL s.data.toList [34] with
    | none => rfl
    | some z =>
      simp only
      rw [if_pos trivial, size_data]
      by_cases hz : n = 0
      · rw [if_pos hz, decide_eq_true hz]
        simp
        omega
      · rw [if_neg hz, decide_eq_false hz]
        simp
  rw [if_neg h3, if_neg (show ¬ a.toNat = 3 by omega)]
  by_cases h2 : a = 2
  · subst h2
    rw [if_pos rfl, if_pos (show (2 : Int).toNat = 2 from rfl)]
    obtain ⟨k, rfl⟩ : ∃ m, k = m + 1 := ⟨k - 1, by omega⟩
    have hn' : -9223372036854775808 ≤ n ∧ n < 9223372036854775808 := hn
    have key : ∀ b : Bool, b = decide (0 ≤ n ∧ n < 1000000000000000000) → lex_text.j0 (k + 1) b 2 s n = some (if 0 ≤ n ∧ n < 1000000000000000000 then (⟨(decL n.toNat).toArray⟩, decide (s.data.toList = [])) else (⟨([48, 120] ++ hexPad 16 (ofI64 n)).toArray⟩, decide (s.data.toList = []))) := by
      intro b hb
      simp only [lex_text.j0]
      rw [decide_nil]
      by_cases hr : 0 ≤ n ∧ n < 1000000000000000000
      · rw [if_pos (by rw [hb]; exact decide_eq_true hr), if_pos hr]
        unfold strconv_Itoa.f
        rw [if_pos (by omega)]
        simp only [Option.bind_some]
        congr 4
        obtain ⟨m, rfl⟩ : ∃ m : Nat, n = m := ⟨n.toNat, by omega⟩
        rw [dec_itoa, Int.toNat_natCast]
      · rw [if_neg (by rw [hb]; simpa using hr), if_neg hr, wrapU n hn'.1 hn'.2]
        have hlt : ofI64 n < 18446744073709551616 := by have := ofI64_lt n; omega
        unfold strconv_FormatUint.f
        rw [if_pos ⟨by omega, by omega, rfl⟩, Int.toNat_natCast]
        simp only [Option.bind_some]
        have hsz := hex_size _ hlt
        have hp := LexW.hexL_pad 15 (ofI64 n) (by omega)
        rw [size_of, show wrap64 (16 - ((LexW.hexL (ofI64 n)).length : Int)) = ((16 - (LexW.hexL (ofI64 n)).length : Nat) : Int) by unfold wrap64; omega, rep_f _ (by omega)]
        simp only [Option.bind_some]
        have e2 : (⟨#[48, 120]⟩ : ByteArray).size = 2 := rfl
        rw [if_pos (by rw [size_of, List.length_replicate]; omega), if_pos (by rw [ByteArray.size_append, e2, size_of (List.replicate _ _), List.length_replicate]; omega), hp.1]
        congr 2
    by_cases hge : n ≥ 0
    · rw [if_pos hge, key _ (by simp [hge])]
      split <;> rfl
    · rw [if_neg hge, key _ (by simp [hge])]
      split <;> rfl
  rw [if_neg h2, if_neg (show ¬ a.toNat = 2 by omega)]
end Go.Proofs.YtajnkmandhomlaaDoor.ZT
