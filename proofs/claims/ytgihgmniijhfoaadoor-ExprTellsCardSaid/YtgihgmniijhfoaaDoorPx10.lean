-- Written by pext.py, a program of this session, over the kit's print: a function's contract
import Derived.Test.YtgihgmniijhfoaaDoorPx0
import Derived.Test.YtgihgmniijhfoaaDoorPx3
import Derived.Test.YtgihgmniijhfoaaDoorPx4
import Derived.Test.YtgihgmniijhfoaaDoorPx5
import Derived.Test.YtgihgmniijhfoaaDoorPx8
namespace Go.Proofs.YtgihgmniijhfoaaDoor.P
open Go.RowKit Go.Proofs.YtgihgmniijhfoaaDoorW.PrintWords Go.Proofs.YtgihgmniijhfoaaDoorW.PrintLast Go.Proofs.YtgihgmniijhfoaaDoorW.PrintMore
attribute [local go_sem] max2_int min2_int max_two min_two max_three min_three max_four min_four   -- for this text's walks alone
set_option linter.unusedVariables false
set_option linter.unusedSimpArgs false


/-! ### expr_Tokens: function 9 -/
section
open Go.Proofs.YtgihgmniijhfoaaDoor.Lex
namespace TK
namespace ZT
theorem start_f (c : UInt8) : lex_start.f c.toNat = some (startC c) := by
  have := Go.Proofs.YtgihgmniijhfoaaDoor.Lex.bytes (p := fun c => lex_start.f c.toNat == some (startC c)) (by decide +kernel) c
  simpa using this
theorem digit_f (c : UInt8) : lex_digit.f c.toNat = some (digitC c) := by
  have := Go.Proofs.YtgihgmniijhfoaaDoor.Lex.bytes (p := fun c => lex_digit.f c.toNat == some (digitC c)) (by decide +kernel) c
  simpa using this
theorem inside_f (c : UInt8) : lex_inside.f c.toNat = some (insideC c) := by
  have := Go.Proofs.YtgihgmniijhfoaaDoor.Lex.bytes (p := fun c => lex_inside.f c.toNat == some (insideC c)) (by decide +kernel) c
  simpa using this
theorem mark_f (c : UInt8) : lex_mark.f c.toNat = some (markC c) := by
  have := Go.Proofs.YtgihgmniijhfoaaDoor.Lex.bytes (p := fun c => lex_mark.f c.toNat == some (markC c)) (by decide +kernel) c
  simpa using this
theorem bt_lt (s : ByteArray) (i : Nat) (h : i < s.size) : bt s (i : Int) = (s[i].toNat : Int) := by simp [bt, h]
theorem many_drop (p : UInt8 → Bool) (s : ByteArray) (i : Nat) (h : i < s.size) : many p (s.data.toList.drop i) = if p s[i] then many p (s.data.toList.drop (i + 1)) + 1 else 0 := by
  rw [LexW.drop_at s i h, many]
theorem wrap_succ {i : Nat} (h : i < 9223372036854775807) : wrap64 ((i : Int) + 1) = ((i + 1 : Nat) : Int) := by unfold wrap64; omega
theorem many_loop {l0 : Nat → ByteArray → Int → Option Int} {q : Int → Option Bool} {p : UInt8 → Bool} (hq : ∀ c : UInt8, q c.toNat = some (p c))
    (hl : ∀ k x0 x5, l0 (k + 1) x0 x5 = if x5 < (x0.size : Int) then (if 0 ≤ x5 then ((q (bt x0 x5)).bind fun t105 => (if t105 = true then (l0 k x0 (wrap64 (x5 + 1))) else (some x5))) else none) else some x5)
    (s : ByteArray) (hs : s.size < 9223372036854775807) : ∀ (d i k : Nat), s.size = i + d → d < k → l0 k s (i : Int) = some ((i + many p (s.data.toList.drop i) : Nat) : Int) := by
  intro d
  induction d with
  | zero =>
    intro i k hi hk
    obtain ⟨k, rfl⟩ : ∃ m, k = m + 1 := ⟨k - 1, by omega⟩
    rw [hl, if_neg (by omega), LexW.drop_end s i (by omega)]
    simp [many]
  | succ d ih =>
    intro i k hi hk
    obtain ⟨k, rfl⟩ : ∃ m, k = m + 1 := ⟨k - 1, by omega⟩
    have hlt : i < s.size := by omega
    rw [hl, if_pos (by omega), if_pos (by omega), bt_lt s i hlt, hq, many_drop p s i hlt]
    simp only [Option.bind_some]
    by_cases hp : p s[i] = true
    · rw [if_pos hp, if_pos hp, wrap_succ (by omega), ih (i + 1) k (by omega) (by omega)]
      congr 2
      omega
    · rw [if_neg hp, if_neg hp]
      rfl
theorem many_inside_f (s : ByteArray) (hs : s.size < 9223372036854775807) (k : Nat) (hk : s.size < k) : lex_many_by_lex_inside.f k s = some ((many insideC s.data.toList : Nat) : Int) := by
  have := many_loop inside_f (fun _ _ _ => rfl) s hs s.size 0 k (by omega) hk (l0 := lex_many_by_lex_inside.l0)
  unfold lex_many_by_lex_inside.f
  simpa using this
theorem many_digit_f (s : ByteArray) (hs : s.size < 9223372036854775807) (k : Nat) (hk : s.size < k) : lex_many_by_lex_digit.f k s = some ((many digitC s.data.toList : Nat) : Int) := by
  have := many_loop digit_f (fun _ _ _ => rfl) s hs s.size 0 k (by omega) hk (l0 := lex_many_by_lex_digit.l0)
  unfold lex_many_by_lex_digit.f
  simpa using this
theorem size_data (s : ByteArray) : s.data.toList.length = s.size := by rw [Array.length_toList]; rfl
theorem extract_list (s : ByteArray) (a b : Nat) : (s.extract a b).data.toList = (s.data.toList.take b).drop a := by
  simp [ByteArray.data_extract, Array.toList_extract, List.extract_eq_take_drop, List.drop_take]
theorem name_f (s : ByteArray) (hs : s.size < 9223372036854775807) (k : Nat) (hk : s.size < k) : lex_name.f k s = some (nameL s.data.toList) := by
  unfold lex_name.f nameL
  have hsd := size_data s
  cases h : s.data.toList with
  | nil =>
    rw [h] at hsd
    simp only [List.length_nil] at hsd
    rw [if_neg (by omega)]
  | cons c t =>
    rw [h] at hsd
    simp only [List.length_cons] at hsd
    have h0 : 0 < s.size := by omega
    have hc : s[0] = c := by
      have := LexW.drop_at s 0 h0
      rw [List.drop_zero, h] at this
      injection this with this
      exact this.symm
    rw [if_pos (by omega)]
    by_cases hl : (s.size : Int) ≤ 32
    · have hb := bt_lt s 0 h0
      rw [hc] at hb
      have he : (s.extract 1 s.size).data.toList = t := by
        rw [extract_list, h, List.take_of_length_le (by simp only [List.length_cons]; omega)]
        rfl
      have hes : (s.extract 1 s.size).size = t.length := by rw [← size_data, he]
      have hm := many_inside_f (s.extract 1 s.size) (by omega) k (by omega)
      rw [he] at hm
      rw [if_pos hl, if_pos (by omega), show bt s 0 = (c.toNat : Int) from hb, start_f, hm]
      simp only [Option.bind_some]
      have hw : wrap64 ((s.size : Int) - 1) = (t.length : Int) := by unfold wrap64; omega
      have e1 : decide (t.length < 32) = true := decide_eq_true (by omega)
      rw [if_pos (by omega : (1 : Int) ≤ s.size), hw, e1]
      by_cases hs : startC c = true
      · rw [if_pos hs, hs]
        congr 1
        by_cases hm : many insideC t = t.length
        · simp [hm]
        · have : ¬ ((many insideC t : Nat) : Int) = (t.length : Int) := fun h => hm (Int.ofNat_inj.1 h)
          simp [hm, this]
      · rw [if_neg hs]
        simp [hs]
    · rw [if_neg hl]
      have e1 : decide (t.length < 32) = false := decide_eq_false (by omega)
      simp [e1]
theorem local_f (s : ByteArray) (hs : s.size < 9223372036854775807) (k : Nat) (hk : s.size < k) : lex_local.f k s = some (localL s.data.toList) := by
  unfold lex_local.f localL
  have hsd := size_data s
  rw [many_digit_f s hs k hk]
  simp only [Option.bind_some]
  have hle := many_le (p := digitC) s.data.toList
  generalize hn : many digitC s.data.toList = n at *
  by_cases h1 : 1 ≤ n
  · rw [if_pos (by omega), decide_eq_true h1]
    by_cases h9 : n ≤ 9
    · rw [if_pos (by omega), decide_eq_true h9]
      by_cases hl : s.data.toList.length = n + 1
      · have hw : wrap64 ((n : Int) + 1) = ((n + 1 : Nat) : Int) := wrap_succ (by omega)
        rw [if_pos (by rw [hw]; omega), if_pos (by omega), if_pos (by omega), decide_eq_true hl]
        have hlt : n < s.size := by omega
        have hg : s.data.toList.getD n 0 = s[n] := by
          have : n < s.data.toList.length := by omega
          simp [List.getD, List.getElem?_eq_getElem this]
          rfl
        rw [bt_lt s n hlt, hg]
        generalize s[n] = c
        have := Go.Proofs.YtgihgmniijhfoaaDoor.Lex.bytes (p := fun c => (if (c.toNat : Int) = 102 then some true else some ((c.toNat : Int) == 98)) == some (true && true && true && (c == 102 || c == 98))) (by decide +kernel) c
        simpa using this
      · have hw : wrap64 ((n : Int) + 1) = ((n + 1 : Nat) : Int) := wrap_succ (by omega)
        rw [if_neg (by rw [hw]; omega), decide_eq_false hl]
        simp
    · rw [if_neg (by omega), decide_eq_false h9]
      simp
  · rw [if_neg (by omega), decide_eq_false h1]
    rfl
def toTok (x : S41) : Tok := ⟨x.f0.toNat, x.f1.data.toList, x.f2⟩
theorem arr_back (s : ByteArray) : (⟨s.data.toList.toArray⟩ : ByteArray) = s := by simp
theorem dec_itoa (n : Nat) : Lib.itoa (n : Int) = decL n := by
  rw [Lib.itoa_nonneg]
  induction n using Nat.strongRecOn with
  | _ n ih =>
    rw [Lib.decDigits, decL]
    by_cases h : n < 10
    · rw [dif_pos h, if_pos h]
      rfl
    · rw [dif_neg h, if_neg h, ih (n / 10) (by omega)]
      rfl
theorem hex_size (n : Nat) (h : n < 18446744073709551616) : 1 ≤ (LexW.hexL n).length ∧ (LexW.hexL n).length ≤ 16 := by
  refine ⟨?_, (LexW.hexL_pad 15 n (by omega)).2⟩
  rw [LexW.hexL]
  split <;> simp
theorem size_of (l : List UInt8) : (⟨l.toArray⟩ : ByteArray).size = l.length := by rw [← size_data]
theorem rep_f (n : Nat) (h : n ≤ 1000000) : strings_Repeat.f (⟨#[48]⟩ : ByteArray) (n : Int) = some ⟨(List.replicate n 48).toArray⟩ := by
  unfold strings_Repeat.f
  have e1 : (⟨#[48]⟩ : ByteArray).size = 1 := rfl
  rw [if_pos ⟨by omega, by omega, by omega⟩, Int.toNat_natCast]
  have : (⟨#[48]⟩ : ByteArray).data.toList = List.replicate 1 48 := rfl
  rw [this, Lib.repeatL_replicate, Nat.mul_one]
theorem wrapU (n : Int) (h0 : -9223372036854775808 ≤ n) (h1 : n < 9223372036854775808) : IntKind.u64.wrap n = (ofI64 n : Int) := by
  unfold ofI64
  rw [IntKind.wrap_u64]
  omega
theorem decide_nil (s : ByteArray) : (s.toList == ([] : List UInt8)) = decide (s.data.toList = []) := by
  rw [ByteArray.toList_eq]
  cases s.data.toList <;> rfl
theorem text_f (x : S41) (h0 : 0 ≤ x.f0) (hs : x.f1.size ≤ 100000000000) (hn : numOk (toTok x)) (k : Nat) (hk : x.f1.size + 1 < k) :
    lex_text.f k x.f0 x.f1 x.f2 = some (⟨(textL (toTok x)).1.toArray⟩, (textL (toTok x)).2) := by
  obtain ⟨a, s, n⟩ := x
  simp only [toTok] at *
  unfold lex_text.f textL
  simp only
  by_cases h1 : a = 1
  · subst h1
    rw [if_pos rfl, if_pos (show (1 : Int).toNat = 1 from rfl)]
    by_cases hz : n = 0
    · rw [if_pos hz, name_f s (by omega) k (by omega), local_f s (by omega) k (by omega), decide_eq_true hz]
      simp only [Option.bind_some]
      cases nameL s.data.toList <;> cases localL s.data.toList <;> simp
    · rw [if_neg hz, decide_eq_false hz]
      simp
  rw [if_neg h1, if_neg (show ¬ a.toNat = 1 by omega)]
  by_cases h4 : a = 4
  · subst h4
    rw [if_pos rfl, if_pos (show (4 : Int).toNat = 4 from rfl)]
    by_cases hz : n = 0
    · rw [if_pos hz, decide_eq_true hz]
      by_cases hl : (s.size : Int) = 1
      · have h1 : 0 < s.size := by omega
        have hg : s.data.toList.getD 0 0 = s[0] := by
          have : 0 < s.data.toList.length := by rw [size_data]; exact h1
          simp [List.getD, List.getElem?_eq_getElem this]
          rfl
        rw [if_pos hl, if_pos (by omega), show bt s 0 = (s[0].toNat : Int) from bt_lt s 0 h1, mark_f, hg, decide_eq_true (by rw [size_data]; omega)]
        simp
      · rw [if_neg hl, decide_eq_false (by rw [size_data]; omega)]
        simp
    · rw [if_neg hz, decide_eq_false hz]
      simp
  rw [if_neg h4, if_neg (show ¬ a.toNat = 4 by omega)]
  by_cases h3 : a = 3
  · subst h3
    rw [if_pos rfl, if_pos (show (3 : Int).toNat = 3 from rfl)]
    unfold lex_shown.f
    rw [if_pos hs, LexW.shownF]
    simp only [Option.bind_some]
    cases shownL s.data.toList [34] with
    | none => rfl
    | some z =>
      simp only
      rw [if_pos trivial, size_data]
      by_cases hz : n = 0
      · rw [if_pos hz, decide_eq_true hz]
        simp
        omega
      · rw [if_neg hz, decide_eq_false hz]
        simp
  rw [if_neg h3, if_neg (show ¬ a.toNat = 3 by omega)]
  by_cases h2 : a = 2
  · subst h2
    rw [if_pos rfl, if_pos (show (2 : Int).toNat = 2 from rfl)]
    obtain ⟨k, rfl⟩ : ∃ m, k = m + 1 := ⟨k - 1, by omega⟩
    have hn' : -9223372036854775808 ≤ n ∧ n < 9223372036854775808 := hn
    have key : ∀ b : Bool, b = decide (0 ≤ n ∧ n < 1000000000000000000) → lex_text.j0 (k + 1) b 2 s n = some (if 0 ≤ n ∧ n < 1000000000000000000 then (⟨(decL n.toNat).toArray⟩, decide (s.data.toList = [])) else (⟨([48, 120] ++ hexPad 16 (ofI64 n)).toArray⟩, decide (s.data.toList = []))) := by
      intro b hb
      simp only [lex_text.j0]
      rw [decide_nil]
      by_cases hr : 0 ≤ n ∧ n < 1000000000000000000
      · rw [if_pos (by rw [hb]; exact decide_eq_true hr), if_pos hr]
        unfold strconv_Itoa.f
        rw [if_pos (by omega)]
        simp only [Option.bind_some]
        congr 4
        obtain ⟨m, rfl⟩ : ∃ m : Nat, n = m := ⟨n.toNat, by omega⟩
        rw [dec_itoa, Int.toNat_natCast]
      · rw [if_neg (by rw [hb]; simpa using hr), if_neg hr, wrapU n hn'.1 hn'.2]
        have hlt : ofI64 n < 18446744073709551616 := by have := ofI64_lt n; omega
        unfold strconv_FormatUint.f
        rw [if_pos ⟨by omega, by omega, rfl⟩, Int.toNat_natCast]
        simp only [Option.bind_some]
        have hsz := hex_size _ hlt
        have hp := LexW.hexL_pad 15 (ofI64 n) (by omega)
        rw [size_of, show wrap64 (16 - ((LexW.hexL (ofI64 n)).length : Int)) = ((16 - (LexW.hexL (ofI64 n)).length : Nat) : Int) by unfold wrap64; omega, rep_f _ (by omega)]
        simp only [Option.bind_some]
        have e2 : (⟨#[48, 120]⟩ : ByteArray).size = 2 := rfl
        rw [if_pos (by rw [size_of, List.length_replicate]; omega), if_pos (by rw [ByteArray.size_append, e2, size_of (List.replicate _ _), List.length_replicate]; omega), hp.1]
        congr 2
    by_cases hge : n ≥ 0
    · rw [if_pos hge, key _ (by simp [hge])]
      split <;> rfl
    · rw [if_neg hge, key _ (by simp [hge])]
      split <;> rfl
  rw [if_neg h2, if_neg (show ¬ a.toNat = 2 by omega)]
end ZT
def xV (x : Ex.X) : Array Value := #[.string ⟨x.s.toArray⟩, .string ⟨x.l.toArray⟩, .int .i64 x.n, .int .u8 (x.m : Int)]
theorem word_f (s : ByteArray) (hs : s.size ≤ 1000000) : expr_word.f 2000000 s = some (Ex.wordL s.data.toList) := by
  unfold expr_word.f lex_Check.f
  have ht := ZT.text_f ⟨1, s, 0⟩ (by show (0 : Int) ≤ 1; decide) (by show s.size ≤ 100000000000; omega) (by show -9223372036854775808 ≤ (0 : Int) ∧ (0 : Int) < 9223372036854775808; omega) 2000000 (by simp only; omega)
  simp only at ht
  rw [ht]
  simp only [Option.bind_some]
  have hm : (Lex.textL (ZT.toTok ⟨1, s, 0⟩)).2 = (Lex.nameL s.data.toList || Lex.localL s.data.toList) := by
    simp [Lex.textL, ZT.toTok]
  rw [hm]
  unfold Ex.wordL
  cases hc : (Lex.nameL s.data.toList || Lex.localL s.data.toList) with
  | false => simp
  | true =>
    have hne : 0 < s.size := by
      have : s.data.toList ≠ [] := by
        intro e
        rw [e] at hc
        exact absurd hc (by decide)
      rw [← ZT.size_data]
      exact List.length_pos_iff.2 this
    have hg : s.data.toList.getD 0 0 = s[0] := by
      have : 0 < s.data.toList.length := by rw [ZT.size_data]; exact hne
      simp [List.getD, List.getElem?_eq_getElem this]
      rfl
    have hb : bt s 0 = (s[0].toNat : Int) := ZT.bt_lt s 0 hne
    have hp : ∀ c : UInt8, (((c.toNat : Int) != 37) = !(c == 37)) := by
      intro c
      have := Lex.bytes (p := fun c => ((c.toNat : Int) != 37) == !(c == 37)) (by decide +kernel) c
      simpa using this
    simp only [if_true, Option.bind_some]
    rw [if_pos (by omega), hb, hg, hp]
    simp
theorem word_calls (s : ByteArray) (hs : s.size ≤ 1000000) (w : World) (hT : Lib.TabIs Tryd.prog w "internal/strconv.uint64pow10" .u64 Lib.pow10Tab) (hD : LexW.LexD w) :
    Calls Tryd.prog 24 #[.string s] w fun e w' => e = .returned (.bool (Ex.wordL s.data.toList)) ∧ Below w.heap.size w w' :=
  expr_word.calls 2000000 s _ w hT hD (word_f s hs)
theorem empty_s {s : List UInt8} (h : s = []) : ((⟨s.toArray⟩ : ByteArray).toList != ([] : List UInt8)) = false ∧ (⟨s.toArray⟩ : ByteArray).toList.isEmpty = true ∧ ((⟨s.toArray⟩ : ByteArray).toList == ([] : List UInt8)) = true := by
  subst h
  rw [ByteArray.toList_eq]
  exact ⟨rfl, rfl, rfl⟩
theorem nonempty_s {s : List UInt8} (h : ¬ s = []) : ((⟨s.toArray⟩ : ByteArray).toList != ([] : List UInt8)) = true ∧ (⟨s.toArray⟩ : ByteArray).toList.isEmpty = false ∧ ((⟨s.toArray⟩ : ByteArray).toList == ([] : List UInt8)) = false := by
  rw [ByteArray.toList_eq]
  cases s with
  | nil => exact absurd rfl h
  | cons c s => exact ⟨rfl, rfl, rfl⟩
theorem infoT : (Tryd.prog.info? 41).map (fun i => (i.zero, i.size, i.bytes)) = some (some (.agg #[.int .u8 0, .string ⟨#[]⟩, .int .i64 0]), 3, 32) := by kernel_rfl
structure PT (w W : World) (b : Nat) (l : List S41) : Prop where
  bel : Below w.heap.size w W
  ge : w.heap.size ≤ b
  v : ∃ A n q, n = l.length ∧ W.heap[b]? = some (.cells #[.slice A n q] 24 (0, 0)) ∧ Kd.R k41 41 W w.heap.size (fun k => k ≠ b) (.slice A n q) l
set_option maxHeartbeats 4000000 in
set_option maxRecDepth 100000 in
theorem add_calls (w W : World) (b : Nat) (l : List S41) (k : Int) (s : ByteArray) (h : PT w W b l) (hl : l.length ≤ 100) :
    Calls Tryd.prog 21 #[.int .u8 k, .string s, .pointer (some ⟨b, 0, none⟩)] W fun e W' => e = .returned (.tuple #[]) ∧ PT w W' b (l ++ [⟨k, s, 0⟩]) := by
  obtain ⟨A4, m, q4, hm, hv, hR⟩ := h.v
  have hlt := blk_lt hv
  have H := Aside0.mk h
  have HL := Aside0.mk hl
  have HR := Aside0.mk hR
  have HM := Aside0.mk hm
  have HV := Aside0.mk hv
  have HLT := Aside0.mk hlt
  have c0 : W.cell? ⟨b, 0, none⟩ = some (.slice A4 m q4) := (blk_cell hv 0).trans rfl
  have f0 := blk_frozen hv 0
  clear h hl hv hlt hR hm
  go_enter Tryd.func21, Tryd.ntmps21
  go_wp2_with (first | ((with_reducible refine gate_builtin (b := .append) (xs := #[.tmp 5, .tmp 9]) rfl ?_); at_builtin; refine Kd.R_append k41 (w0 := w) (W := W) w.heap.size rfl (.tmp 5) (.tmp 9) 24 41 (.agg #[.int .u8 0, .string ⟨#[]⟩, .int .i64 0]) 32 rfl Tryd.underlying24 infoT rfl (by decide) (by omega) (.slice A4 m q4) l ⟨k, s, 0⟩ [.int .u8 k, .string s, .int .i64 0] (fun k => k ≠ b) (fun _ => False) rfl rfl ?aP (fun _ hk => hk.elim) ?aF ?aO ?aB ?aS ?aL ?_; (case aP => exact k41_mkM _ _ _ ⟨k, s, 0⟩); (case aF => exact fun k hk => by have := HLT.out; omega); (case aO => exact HR.out); (case aB => exact H.out.bel); (case aS => exact H.out.bel.size); (case aL => have := HL.out; omega); intro v7 w7 ho hb7 hg7 _; obtain ⟨A7, q7, rfl⟩ := Kd.R_slice ho; have HR7 := Aside0.mk ho; have HB7 := Aside0.mk hb7; have BK7 := Aside0.mk (blk_grown HV.out hg7 (fun e => HR.out.1 b e.symm rfl)); have c7 : w7.cell? ⟨b, 0, none⟩ = some (.slice A4 m q4) := (blk_cell BK7.out 0).trans rfl; have f7 := blk_frozen BK7.out 0; clear ho hb7 hg7))
  go_end0
  have h7 := HR7.out
  rw [show (l ++ [(⟨k, s, 0⟩ : S41)]).length = l.length + 1 by rw [List.length_append]; rfl] at h7
  exact ⟨rfl, ⟨HB7.out.setCell H.out.ge _, H.out.ge, _, _, _, by rw [List.length_append]; rfl, blk_put BK7.out 0 _ rfl, Kd.R_far h7 (fun _ h => h) _⟩⟩
def tkS (x : Lex.Tok) : S41 := ⟨(x.k : Int), ⟨x.t.toArray⟩, x.n⟩
structure okX (x : Ex.X) : Prop where
  s : x.s.length ≤ 1000000
  l : x.l.length ≤ 1000000
  m : x.m < 256
theorem bsz (l : List UInt8) : (⟨l.toArray⟩ : ByteArray).size = l.length := by show l.toArray.size = l.length; simp
theorem check_f (x : Ex.X) (h : okX x) : expr_Check.f 2000000 ⟨x.s.toArray⟩ ⟨x.l.toArray⟩ x.n (x.m : Int) = some (if Ex.checkL x then 0 else 8) := by
  have hw : wrap64 (x.m : Int) = (x.m : Int) := by have := h.m; unfold wrap64; omega
  have fs := word_f ⟨x.s.toArray⟩ (by rw [bsz]; exact h.s)
  have fl := word_f ⟨x.l.toArray⟩ (by rw [bsz]; exact h.l)
  unfold expr_Check.f Ex.checkL
  rw [fs, fl, hw, ByteArray.toList_eq, ByteArray.toList_eq]
  simp only [Option.bind_some]
  by_cases c1 : x.s = [] <;> by_cases c2 : x.l = [] <;> by_cases c3 : (x.m : Int) > 4 <;> cases hs : Ex.wordL x.s <;> cases hl : Ex.wordL x.l <;> simp [c1, c2, c3, hs, hl] <;> omega
theorem cell_mods {W : World} (h : ExW.ModsAt W) (j : Nat) (hj : j < 4) : W.cell? ⟨0, j, none⟩ = some (.string ⟨(Ex.modName (j + 1)).toArray⟩) := h j hj
theorem mod_case (x : Ex.X) (M : Int) (hM : M = (x.m : Int)) (hc : Ex.checkL x = true) : ∃ (j : Nat) (N : ByteArray), (∀ W, ExW.ModsAt W → W.cell? ⟨0, j, none⟩ = some (.string N)) ∧ j < 4 ∧
    ((decide (0 < M) = false ∧ (Ex.toksX x).map tkS = (Ex.bodyX x).map tkS) ∨ (decide (0 < M) = true ∧ (M - 1) % 256 = (j : Int) ∧ (Ex.toksX x).map tkS = [⟨1, N, 0⟩, ⟨4, ⟨#[40]⟩, 0⟩] ++ (Ex.bodyX x).map tkS ++ [⟨4, ⟨#[41]⟩, 0⟩])) := by
  have h4 := (Ex.check_parts hc).2.2
  rw [Ex.toks_body]
  by_cases h0 : 0 < x.m
  · refine ⟨x.m - 1, _, fun W h => cell_mods h _ (by omega), by omega, .inr ⟨decide_eq_true (by omega), by omega, ?_⟩⟩
    rw [if_pos h0, if_pos h0, show x.m - 1 + 1 = x.m by omega]
    simp only [List.map_append, List.map_cons, List.map_nil]
    rfl
  · refine ⟨0, _, fun W h => cell_mods h _ (by omega), by omega, .inl ⟨decide_eq_false (by omega), ?_⟩⟩
    rw [if_neg h0, if_neg h0, List.nil_append, List.append_nil]
theorem body_case (x : Ex.X) (S L : ByteArray) (hS : S = ⟨x.s.toArray⟩) (hL : L = ⟨x.l.toArray⟩) (hc : Ex.checkL x = true) :
    ((S.toList != ([] : List UInt8)) = false ∧ (S.toList == ([] : List UInt8)) = true ∧ S.toList.isEmpty = true ∧ (L.toList != ([] : List UInt8)) = false ∧ (L.toList == ([] : List UInt8)) = true ∧ L.toList.isEmpty = true ∧ (x.n != 0) = true ∧ (Ex.bodyX x).map tkS = [⟨2, ⟨#[]⟩, x.n⟩]) ∨
    ((S.toList != ([] : List UInt8)) = false ∧ (S.toList == ([] : List UInt8)) = true ∧ S.toList.isEmpty = true ∧ (L.toList != ([] : List UInt8)) = false ∧ (L.toList == ([] : List UInt8)) = true ∧ L.toList.isEmpty = true ∧ (x.n != 0) = false ∧ (Ex.bodyX x).map tkS = [⟨2, ⟨#[]⟩, x.n⟩]) ∨
    ((S.toList != ([] : List UInt8)) = true ∧ (S.toList == ([] : List UInt8)) = false ∧ S.toList.isEmpty = false ∧ (L.toList != ([] : List UInt8)) = false ∧ (L.toList == ([] : List UInt8)) = true ∧ L.toList.isEmpty = true ∧ (x.n != 0) = true ∧ (Ex.bodyX x).map tkS = [⟨1, S, 0⟩, ⟨4, ⟨#[43]⟩, 0⟩, ⟨2, ⟨#[]⟩, x.n⟩]) ∨
    ((S.toList != ([] : List UInt8)) = true ∧ (S.toList == ([] : List UInt8)) = false ∧ S.toList.isEmpty = false ∧ (L.toList != ([] : List UInt8)) = false ∧ (L.toList == ([] : List UInt8)) = true ∧ L.toList.isEmpty = true ∧ (x.n != 0) = false ∧ (Ex.bodyX x).map tkS = [⟨1, S, 0⟩]) ∨
    ((S.toList != ([] : List UInt8)) = true ∧ (S.toList == ([] : List UInt8)) = false ∧ S.toList.isEmpty = false ∧ (L.toList != ([] : List UInt8)) = true ∧ (L.toList == ([] : List UInt8)) = false ∧ L.toList.isEmpty = false ∧ (x.n != 0) = true ∧ (Ex.bodyX x).map tkS = [⟨1, S, 0⟩, ⟨4, ⟨#[45]⟩, 0⟩, ⟨1, L, 0⟩, ⟨4, ⟨#[43]⟩, 0⟩, ⟨2, ⟨#[]⟩, x.n⟩]) ∨
    ((S.toList != ([] : List UInt8)) = true ∧ (S.toList == ([] : List UInt8)) = false ∧ S.toList.isEmpty = false ∧ (L.toList != ([] : List UInt8)) = true ∧ (L.toList == ([] : List UInt8)) = false ∧ L.toList.isEmpty = false ∧ (x.n != 0) = false ∧ (Ex.bodyX x).map tkS = [⟨1, S, 0⟩, ⟨4, ⟨#[45]⟩, 0⟩, ⟨1, L, 0⟩]) := by
  obtain ⟨hs, hl, hm⟩ := Ex.check_parts hc
  subst hS hL
  by_cases c1 : x.s = []
  · obtain ⟨a1, a2, a3⟩ := empty_s c1
    have c2 : x.l = [] := by
      rcases hl with h | h
      · exact h
      · exact absurd c1 h.1
    obtain ⟨b1, b2, b3⟩ := empty_s c2
    by_cases c3 : x.n = 0
    · exact .inr (.inl ⟨a1, a3, a2, b1, b3, b2, bne_eq_false_iff_eq.2 c3, by simp [Ex.bodyX, c1, c2, c3, tkS]⟩)
    · exact .inl ⟨a1, a3, a2, b1, b3, b2, bne_iff_ne.2 c3, by simp [Ex.bodyX, c1, c2, c3, tkS]⟩
  · obtain ⟨a1, a2, a3⟩ := nonempty_s c1
    by_cases c2 : x.l = []
    · obtain ⟨b1, b2, b3⟩ := empty_s c2
      by_cases c3 : x.n = 0
      · exact .inr (.inr (.inr (.inl ⟨a1, a3, a2, b1, b3, b2, bne_eq_false_iff_eq.2 c3, by simp [Ex.bodyX, c1, c2, c3, tkS, Ex.mk]⟩)))
      · exact .inr (.inr (.inl ⟨a1, a3, a2, b1, b3, b2, bne_iff_ne.2 c3, by simp [Ex.bodyX, c1, c2, c3, tkS, Ex.mk]⟩))
    · obtain ⟨b1, b2, b3⟩ := nonempty_s c2
      by_cases c3 : x.n = 0
      · exact .inr (.inr (.inr (.inr (.inr ⟨a1, a3, a2, b1, b3, b2, bne_eq_false_iff_eq.2 c3, by simp [Ex.bodyX, c1, c2, c3, tkS, Ex.mk]⟩))))
      · exact .inr (.inr (.inr (.inr (.inl ⟨a1, a3, a2, b1, b3, b2, bne_iff_ne.2 c3, by simp [Ex.bodyX, c1, c2, c3, tkS, Ex.mk]⟩))))
theorem r_self {W : World} {c base : Nat} {v : Value} {l : List S41} (h : Kd.R k41 41 W base (fun k => k ≠ c) v l) : Kd.R k41 41 (W.setCell ⟨c, 0, none⟩ v) base (fun k => k ≠ c) v l := Kd.R_far (p := ⟨c, 0, none⟩) h (fun _ h => h) v
set_option maxHeartbeats 16000000 in
set_option maxRecDepth 100000 in
theorem tok_walk (w : World) (x : Ex.X) (ok : okX x) (hT : Lib.TabIs Tryd.prog w "internal/strconv.uint64pow10" .u64 Lib.pow10Tab) (hD : LexW.LexD w) (hM : ExW.ModsAt w) (hc : Ex.checkL x = true) :
    Calls Tryd.prog 9 #[.agg (xV x)] w fun e w' => ∃ v, e = .returned (.tuple #[v, .int .i64 0]) ∧ Kd.R k41 41 w' w.heap.size (fun _ => True) v ((Ex.toksX x).map tkS) ∧ Below w.heap.size w w' := by
  have HT := Aside0.mk hT
  have HD := Aside0.mk hD
  have HM := Aside0.mk hM
  have CH := Aside0.mk (check_f x ok)
  rw [if_pos hc] at CH
  clear hT hD hM
  unfold xV
  obtain ⟨S, hS⟩ : ∃ S : ByteArray, S = ⟨x.s.toArray⟩ := ⟨_, rfl⟩
  obtain ⟨L, hL⟩ : ∃ L : ByteArray, L = ⟨x.l.toArray⟩ := ⟨_, rfl⟩
  obtain ⟨M, hM⟩ : ∃ M : Int, M = (x.m : Int) := ⟨_, rfl⟩
  rw [← hS, ← hL, ← hM]
  rw [← hS, ← hL, ← hM] at CH
  obtain ⟨j, N, hN, hj, hm⟩ := mod_case x M hM hc
  have XM := Aside0.mk hN
  have hb := body_case x S L hS hL hc
  clear hS hL hM hc ok hN
  rcases hm with ⟨m1, e1⟩ | ⟨m1, m2, e1⟩ <;> rcases hb with ⟨s1, s2, s3, l1, l2, l3, n1, e2⟩ | ⟨s1, s2, s3, l1, l2, l3, n1, e2⟩ | ⟨s1, s2, s3, l1, l2, l3, n1, e2⟩ | ⟨s1, s2, s3, l1, l2, l3, n1, e2⟩ | ⟨s1, s2, s3, l1, l2, l3, n1, e2⟩ | ⟨s1, s2, s3, l1, l2, l3, n1, e2⟩
  all_goals
    have E := Aside0.mk (e1.trans (by rw [e2]))
    clear e1 e2
    go_enter Tryd.func9, Tryd.ntmps9
    go_wp2_with (first | ((with_reducible refine gate_dst (N := 1) rfl ?_); refine box_event ?hg (N := 1) ?hd (cs := #[.string S, .string L, .int .i64 x.n, .int .u8 M]) (t := 23) ?hr ?_; (case hd => rfl); (case hg => rfl); (case hr => first | (go_simp; done) | (go_simp; rfl)); intro b hg w1 hbox hb; have HB1 := Aside0.mk hb; have BX1 := Aside0.mk hbox; have GB : Aside0 (w.heap.size ≤ b) := ⟨by rw [hg]; exact Nat.le_refl _⟩; have x0 : w1.cell? ⟨b, 0, none⟩ = some (.string S) := (blk_cell BX1.out 0).trans rfl; have x1 : w1.cell? ⟨b, 1, none⟩ = some (.string L) := (blk_cell BX1.out 1).trans rfl; have x2 : w1.cell? ⟨b, 2, none⟩ = some (.int .i64 x.n) := (blk_cell BX1.out 2).trans rfl; have x3 : w1.cell? ⟨b, 3, none⟩ = some (.int .u8 M) := (blk_cell BX1.out 3).trans rfl; clear hb hbox hg) | (go_at_call 12; have hT1 := Lib.tabBelow_of_tabIs HT.out _ HB1.out; (with_reducible refine (expr_Check.calls 2000000 _ _ _ _ _ _ hT1 (HD.out.below HB1.out) CH.out).mono ?_); rintro e w2 ⟨rfl, hb⟩; clear x0 x1 x2 x3; have HB2 := Aside0.mk (below_step HB1.out hb); have BX2 := Aside0.mk (blk_below BX1.out hb); have x0 : w2.cell? ⟨b, 0, none⟩ = some (.string S) := (blk_cell BX2.out 0).trans rfl; have x1 : w2.cell? ⟨b, 1, none⟩ = some (.string L) := (blk_cell BX2.out 1).trans rfl; have x2 : w2.cell? ⟨b, 2, none⟩ = some (.int .i64 x.n) := (blk_cell BX2.out 2).trans rfl; have x3 : w2.cell? ⟨b, 3, none⟩ = some (.int .u8 M) := (blk_cell BX2.out 3).trans rfl; clear hb) | ((with_reducible refine gate_dst (N := 5) rfl ?_); refine box_event ?hg (N := 5) ?hd (cs := #[.slice none 0 0]) (t := 24) ?hr ?_; (case hd => rfl); (case hg => rfl); (case hr => first | (go_simp; done) | (go_simp; rfl)); intro c hg w3 hbox hb; clear x0 x1 x2 x3; have P : Aside0 (PT w2 w3 c []) := ⟨⟨hb, by rw [hg]; exact Nat.le_refl _, none, 0, 0, rfl, hbox, Kd.R_nil _ _ _ _ _⟩⟩; clear hb hbox hg; have x0 : w3.cell? ⟨b, 0, none⟩ = some (.string S) := (blk_cell (blk_below BX2.out P.out.bel) 0).trans rfl; have x1 : w3.cell? ⟨b, 1, none⟩ = some (.string L) := (blk_cell (blk_below BX2.out P.out.bel) 1).trans rfl; have x2 : w3.cell? ⟨b, 2, none⟩ = some (.int .i64 x.n) := (blk_cell (blk_below BX2.out P.out.bel) 2).trans rfl; have x3 : w3.cell? ⟨b, 3, none⟩ = some (.int .u8 M) := (blk_cell (blk_below BX2.out P.out.bel) 3).trans rfl; have xm := XM.out _ (HM.out.below (below_step HB2.out P.out.bel)); obtain ⟨Av, nv, qv, hnv, hcv, hrv⟩ := P.out.v; have cv : w3.cell? ⟨c, 0, none⟩ = some (.slice Av nv qv) := (blk_cell hcv 0).trans rfl; have fv := blk_frozen hcv 0; have HCV := Aside0.mk hcv; have HRV := Aside0.mk hrv; have HNV := Aside0.mk hnv; clear hnv hcv hrv) | (go_at_call 21; (with_reducible refine (add_calls w2 _ c _ _ _ P.out (by simp)).mono ?_); rintro e w3 ⟨rfl, hp⟩; have P2 := Aside0.mk hp; clear hp P x0 x1 x2 x3 xm cv fv HCV HRV HNV; have P := P2; clear P2; have x0 : w3.cell? ⟨b, 0, none⟩ = some (.string S) := (blk_cell (blk_below BX2.out P.out.bel) 0).trans rfl; have x1 : w3.cell? ⟨b, 1, none⟩ = some (.string L) := (blk_cell (blk_below BX2.out P.out.bel) 1).trans rfl; have x2 : w3.cell? ⟨b, 2, none⟩ = some (.int .i64 x.n) := (blk_cell (blk_below BX2.out P.out.bel) 2).trans rfl; have x3 : w3.cell? ⟨b, 3, none⟩ = some (.int .u8 M) := (blk_cell (blk_below BX2.out P.out.bel) 3).trans rfl; have xm := XM.out _ (HM.out.below (below_step HB2.out P.out.bel)); obtain ⟨Av, nv, qv, hnv, hcv, hrv⟩ := P.out.v; have cv : w3.cell? ⟨c, 0, none⟩ = some (.slice Av nv qv) := (blk_cell hcv 0).trans rfl; have fv := blk_frozen hcv 0; have HCV := Aside0.mk hcv; have HRV := Aside0.mk hrv; have HNV := Aside0.mk hnv; clear hnv hcv hrv) | ((with_reducible refine gate_builtin (b := .append) (xs := #[.tmp 54, .tmp 58]) rfl ?_); at_builtin; refine Kd.R_append k41 (w0 := w2) (W := w3) w2.heap.size rfl (.tmp 54) (.tmp 58) 24 41 (.agg #[.int .u8 0, .string ⟨#[]⟩, .int .i64 0]) 32 rfl Tryd.underlying24 infoT rfl (by decide) (by omega) (.slice Av nv qv) _ ⟨2, ⟨#[]⟩, x.n⟩ [.int .u8 2, .string ⟨#[]⟩, .int .i64 x.n] (fun k => k ≠ c) (fun _ => False) rfl rfl ?aP (fun _ hk => hk.elim) ?aF HRV.out ?aB ?aS ?aL ?_; (case aP => exact k41_mkM _ _ _ ⟨2, ⟨#[]⟩, x.n⟩); (case aF => exact fun k hk => by have := blk_lt HCV.out; omega); (case aB => exact P.out.bel); (case aS => exact P.out.bel.size); (case aL => simp); intro v7 w3 ho hb7 hg7 _; obtain ⟨A7, q7, rfl⟩ := Kd.R_slice ho; have HR7 := Aside0.mk ho; have HB7 := Aside0.mk hb7; have BK7 := Aside0.mk (blk_grown HCV.out hg7 (fun e => HRV.out.1 c e.symm rfl)); clear cv fv; have cv : w3.cell? ⟨c, 0, none⟩ = some (.slice Av nv qv) := (blk_cell BK7.out 0).trans rfl; have fv := blk_frozen BK7.out 0; have BX3 := Aside0.mk (blk_below BX2.out hb7); have xm2 := XM.out _ (HM.out.below (below_step HB2.out hb7)); have P2 : Aside0 (PT w2 (w3.setCell ⟨c, 0, none⟩ (.slice A7 _ q7)) c _) := ⟨⟨hb7.setCell P.out.ge _, P.out.ge, _, _, _, rfl, blk_put BK7.out 0 _ rfl, Kd.R_far ho (fun _ h => h) _⟩⟩; have HR2 := Aside0.mk (r_self ho); simp only [List.length_append, List.length_cons, List.length_nil, Nat.reduceAdd] at P2 HR2; clear ho hb7 hg7 P HRV HCV HNV x0 x1 x2 x3 xm HR7 HB7; have P := P2; have HRV := HR2; have xm := xm2; have HCV := BK7; have HNV := BK7; clear P2 HR2 xm2; have x0 : w3.cell? ⟨b, 0, none⟩ = some (.string S) := (blk_cell BX3.out 0).trans rfl; have x1 : w3.cell? ⟨b, 1, none⟩ = some (.string L) := (blk_cell BX3.out 1).trans rfl; have x2 : w3.cell? ⟨b, 2, none⟩ = some (.int .i64 x.n) := (blk_cell BX3.out 2).trans rfl; have x3 : w3.cell? ⟨b, 3, none⟩ = some (.int .u8 M) := (blk_cell BX3.out 3).trans rfl))
  all_goals
    go_ret2
    exact ⟨_, rfl, by rw [E.out]; exact Kd.R_lower (Kd.R_mono HRV.out (fun _ _ => trivial)) (below_size HB2.out), below_step HB2.out P.out.bel⟩
set_option maxHeartbeats 4000000 in
set_option maxRecDepth 100000 in
theorem tok_bad (w : World) (x : Ex.X) (ok : okX x) (hT : Lib.TabIs Tryd.prog w "internal/strconv.uint64pow10" .u64 Lib.pow10Tab) (hD : LexW.LexD w) (hc : Ex.checkL x = false) :
    Calls Tryd.prog 9 #[.agg (xV x)] w fun e w' => ∃ v, e = .returned (.tuple #[v, .int .i64 8]) ∧ Kd.R k41 41 w' w.heap.size (fun _ => True) v [] ∧ Below w.heap.size w w' := by
  have HT := Aside0.mk hT
  have HD := Aside0.mk hD
  have CH := Aside0.mk (check_f x ok)
  rw [if_neg (by rw [hc]; simp)] at CH
  clear hT hD
  unfold xV
  obtain ⟨S, hS⟩ : ∃ S : ByteArray, S = ⟨x.s.toArray⟩ := ⟨_, rfl⟩
  obtain ⟨L, hL⟩ : ∃ L : ByteArray, L = ⟨x.l.toArray⟩ := ⟨_, rfl⟩
  obtain ⟨M, hM⟩ : ∃ M : Int, M = (x.m : Int) := ⟨_, rfl⟩
  rw [← hS, ← hL, ← hM]
  rw [← hS, ← hL, ← hM] at CH
  clear hS hL hM hc ok
  go_enter Tryd.func9, Tryd.ntmps9
  go_wp2_with (first | ((with_reducible refine gate_dst (N := 1) rfl ?_); refine box_event ?hg (N := 1) ?hd (cs := #[.string S, .string L, .int .i64 x.n, .int .u8 M]) (t := 23) ?hr ?_; (case hd => rfl); (case hg => rfl); (case hr => first | (go_simp; done) | (go_simp; rfl)); intro b hg w1 hbox hb; have HB1 := Aside0.mk hb; have BX1 := Aside0.mk hbox; have GB : Aside0 (w.heap.size ≤ b) := ⟨by rw [hg]; exact Nat.le_refl _⟩; have x0 : w1.cell? ⟨b, 0, none⟩ = some (.string S) := (blk_cell BX1.out 0).trans rfl; have x1 : w1.cell? ⟨b, 1, none⟩ = some (.string L) := (blk_cell BX1.out 1).trans rfl; have x2 : w1.cell? ⟨b, 2, none⟩ = some (.int .i64 x.n) := (blk_cell BX1.out 2).trans rfl; have x3 : w1.cell? ⟨b, 3, none⟩ = some (.int .u8 M) := (blk_cell BX1.out 3).trans rfl; clear hb hbox hg) | (go_at_call 12; have hT1 := Lib.tabBelow_of_tabIs HT.out _ HB1.out; (with_reducible refine (expr_Check.calls 2000000 _ _ _ _ _ _ hT1 (HD.out.below HB1.out) CH.out).mono ?_); rintro e w2 ⟨rfl, hb⟩; clear x0 x1 x2 x3; have HB2 := Aside0.mk (below_step HB1.out hb); have BX2 := Aside0.mk (blk_below BX1.out hb); have x0 : w2.cell? ⟨b, 0, none⟩ = some (.string S) := (blk_cell BX2.out 0).trans rfl; have x1 : w2.cell? ⟨b, 1, none⟩ = some (.string L) := (blk_cell BX2.out 1).trans rfl; have x2 : w2.cell? ⟨b, 2, none⟩ = some (.int .i64 x.n) := (blk_cell BX2.out 2).trans rfl; have x3 : w2.cell? ⟨b, 3, none⟩ = some (.int .u8 M) := (blk_cell BX2.out 3).trans rfl; clear hb))
  go_ret2
  exact ⟨_, rfl, Kd.R_nil _ _ _ _ _, HB2.out⟩
end TK
def expr_Tokens.f (a0_0 a0_1 : ByteArray) (a0_2 a0_3 : Int) : Option (List S41 × Int) :=
  if a0_0.size ≤ 1000000 ∧ a0_1.size ≤ 1000000 ∧ 0 ≤ a0_3 ∧ a0_3 ≤ 255 then
    some (if Ex.checkL ⟨a0_0.data.toList, a0_1.data.toList, a0_2, a0_3.toNat⟩ then ((Ex.toksX ⟨a0_0.data.toList, a0_1.data.toList, a0_2, a0_3.toNat⟩).map TK.tkS, 0) else ([], 8))
  else none
theorem expr_Tokens.calls (a0_0 a0_1 : ByteArray) (a0_2 a0_3 : Int) (r1 : List S41) (r2 : Int) (w : World) (hT : Lib.TabIs Tryd.prog w "internal/strconv.uint64pow10" .u64 Lib.pow10Tab) (hD : LexW.LexD w) (hM : ExW.ModsAt w) (h : expr_Tokens.f a0_0 a0_1 a0_2 a0_3 = some (r1, r2)) :
    Calls Tryd.prog 9 #[.agg #[.string a0_0, .string a0_1, .int .i64 a0_2, .int .u8 a0_3]] w fun e w' => ∃ v0_ : Value, e = .returned (.tuple #[v0_, .int .i64 r2]) ∧ Kd.R k41 41 w' w.heap.size (fun _ => True) v0_ r1 ∧ Below w.heap.size w w' := by
  unfold expr_Tokens.f at h
  by_cases c : a0_0.size ≤ 1000000 ∧ a0_1.size ≤ 1000000 ∧ 0 ≤ a0_3 ∧ a0_3 ≤ 255
  · rw [if_pos c] at h
    have e : (#[.string a0_0, .string a0_1, .int .i64 a0_2, .int .u8 a0_3] : Array Value) = TK.xV ⟨a0_0.data.toList, a0_1.data.toList, a0_2, a0_3.toNat⟩ := by
      unfold TK.xV
      rw [show ((a0_3.toNat : Nat) : Int) = a0_3 by omega]
    have ok : TK.okX ⟨a0_0.data.toList, a0_1.data.toList, a0_2, a0_3.toNat⟩ := ⟨by rw [Array.length_toList]; exact c.1, by rw [Array.length_toList]; exact c.2.1, by show a0_3.toNat < 256; omega⟩
    rw [e]
    cases hc : Ex.checkL ⟨a0_0.data.toList, a0_1.data.toList, a0_2, a0_3.toNat⟩ with
    | true =>
      rw [hc, if_pos rfl] at h
      simp only [Option.some.injEq, Prod.mk.injEq] at h
      obtain ⟨rfl, rfl⟩ := h
      exact TK.tok_walk w _ ok hT hD hM hc
    | false =>
      rw [hc, if_neg (by simp)] at h
      simp only [Option.some.injEq, Prod.mk.injEq] at h
      obtain ⟨rfl, rfl⟩ := h
      exact TK.tok_bad w _ ok hT hD hc
  · rw [if_neg c] at h
    cases h
end

end Go.Proofs.YtgihgmniijhfoaaDoor.P
