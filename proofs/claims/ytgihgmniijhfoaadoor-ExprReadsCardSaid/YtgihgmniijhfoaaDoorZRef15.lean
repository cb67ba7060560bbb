/- What the document's own functions on words compute, on lists of bytes. -/
import Derived.Test.YtgihgmniijhfoaaDoorPx12
import Derived.Test.YtgihgmniijhfoaaDoorPx11
import Derived.Test.YtgihgmniijhfoaaDoorPx16
import Derived.Test.YtgihgmniijhfoaaDoorPx6
namespace Go.Proofs.YtgihgmniijhfoaaDoor.ZR
open Go.RowKit Go.Proofs.YtgihgmniijhfoaaDoor.P Go.Proofs.YtgihgmniijhfoaaDoor.P.ZT Go.Proofs.YtgihgmniijhfoaaDoorW.PrintWords Go.Proofs.YtgihgmniijhfoaaDoorW.PrintLast Go.Proofs.YtgihgmniijhfoaaDoorW.PrintMore Go.Proofs.YtgihgmniijhfoaaDoor.Lex
set_option linter.unusedVariables false
set_option linter.unusedSimpArgs false
theorem wf64 {x : Int} (h : (Lit.int .i64 x).wf = true) : -9223372036854775808 ≤ x ∧ x < 9223372036854775808 := by
  simp [Lit.wf, IntKind.min, IntKind.max, IntKind.signed, IntKind.bits] at h
  omega
theorem wfu8 {x : Int} (h : (Lit.int .u8 x).wf = true) : 0 ≤ x ∧ x ≤ 255 := by
  simp [Lit.wf, IntKind.min, IntKind.max, IntKind.signed, IntKind.bits] at h
  omega
def okS (M : Nat) (x : S41) : Prop := 0 ≤ x.f0 ∧ x.f1.size ≤ M ∧ numOk (toTok x)
theorem rd_at (l : List S41) (i : Nat) (h : i < l.length) : rd_T41 l (i : Int) = l[i] := by
  simp [rd_T41, List.getD, List.getElem?_eq_getElem h]
theorem tok_same (x : S41) : ¬ ((!(x.f0 == x.f0) || (!(x.f1.toList == x.f1.toList) || !(x.f2 == x.f2))) = true) := by simp
theorem same_loop (x : List S41) (hx : x.length ≤ 10000000) : ∀ (d i k : Nat), x.length = i + d → d < k → quoinref15_Same.l0 k x x (i : Int) = some true := by
  intro d
  induction d with
  | zero =>
    intro i k hi hk
    obtain ⟨k, rfl⟩ : ∃ m, k = m + 1 := ⟨k - 1, by omega⟩
    simp only [quoinref15_Same.l0]
    rw [if_neg (by omega)]
  | succ d ih =>
    intro i k hi hk
    obtain ⟨k, rfl⟩ : ∃ m, k = m + 1 := ⟨k - 1, by omega⟩
    simp only [quoinref15_Same.l0]
    rw [if_pos (by omega), if_pos (by omega), if_pos (by omega), if_neg (tok_same _), wrap_succ (by omega)]
    exact ih (i + 1) k (by omega) (by omega)
theorem same_f (x : List S41) (hx : x.length ≤ 10000000) (k : Nat) (hk : x.length < k) : quoinref15_Same.f k x x = some true := by
  unfold quoinref15_Same.f
  rw [if_pos rfl]
  exact same_loop x hx x.length 0 k (by omega) hk
theorem great_loop (l : List S41) (hl : l.length ≤ maxLen) : ∀ (d i n k : Nat), i + d = 300 → d + 1 < k → n ≤ 100000 * i →
    ∃ g, quoinref15_Great.l0 k l (n : Int) (i : Int) = some g ∧ (g = false → l.length ≤ 200 ∧ n ≤ 20000 ∧ ∀ j, i ≤ j → (h : j < l.length) → l[j].f1.size ≤ 20000) := by
  intro d
  induction d with
  | zero =>
    intro i n k hi hk hn
    obtain ⟨k, rfl⟩ : ∃ m, k = m + 1 := ⟨k - 1, by omega⟩
    simp only [quoinref15_Great.l0]
    by_cases h1 : (i : Int) < l.length
    · rw [if_pos h1, if_neg (by omega), if_pos (by omega)]
      exact ⟨true, rfl, by simp⟩
    · rw [if_neg h1]
      by_cases h2 : (l.length : Int) > 200
      · rw [if_pos h2]
        exact ⟨true, rfl, by simp⟩
      · rw [if_neg h2]
        refine ⟨_, rfl, fun h => ⟨by omega, ?_, fun j hj h => by omega⟩⟩
        have := of_decide_eq_false h
        omega
  | succ d ih =>
    intro i n k hi hk hn
    obtain ⟨k, rfl⟩ : ∃ m, k = m + 1 := ⟨k - 1, by omega⟩
    simp only [quoinref15_Great.l0]
    by_cases h1 : (i : Int) < l.length
    · rw [if_pos h1, if_pos (by omega), if_pos (by omega), rd_at l i (by omega)]
      have hmn : mn ((l[i]'(by omega)).f1.size : Int) 100000 = ((min (l[i]'(by omega)).f1.size 100000 : Nat) : Int) := by
        unfold mn
        split <;> omega
      rw [hmn, wrap_succ (by omega), show wrap64 ((n : Int) + ((min (l[i]'(by omega)).f1.size 100000 : Nat) : Int)) = ((n + min (l[i]'(by omega)).f1.size 100000 : Nat) : Int) by unfold wrap64; omega]
      obtain ⟨g, hg, h⟩ := ih (i + 1) (n + min (l[i]'(by omega)).f1.size 100000) k (by omega) (by omega) (by omega)
      refine ⟨g, hg, fun hf => ?_⟩
      obtain ⟨a, b, c⟩ := h hf
      refine ⟨a, by omega, fun j hj hlt => ?_⟩
      by_cases he : j = i
      · subst he
        omega
      · exact c j (by omega) hlt
    · rw [if_neg h1]
      by_cases h2 : (l.length : Int) > 200
      · rw [if_pos h2]
        exact ⟨true, rfl, by simp⟩
      · rw [if_neg h2]
        refine ⟨_, rfl, fun h => ⟨by omega, ?_, fun j hj h => by omega⟩⟩
        have := of_decide_eq_false h
        omega
theorem great_f (l : List S41) (hl : l.length ≤ maxLen) (k : Nat) (hk : 400 ≤ k) : ∃ g, quoinref15_Great.f k l = some g ∧ (g = false → l.length ≤ 200 ∧ ∀ x ∈ l, x.f1.size ≤ 20000) := by
  obtain ⟨g, hg, h⟩ := great_loop l hl 300 0 0 k rfl (by omega) (by omega)
  refine ⟨g, hg, fun hf => ⟨(h hf).1, fun x hx => ?_⟩⟩
  obtain ⟨j, hj, rfl⟩ := List.mem_iff_getElem.1 hx
  exact (h hf).2.2 j (by omega) hj
def letterC (c : UInt8) : Bool := (97 ≤ c && c ≤ 122) || (65 ≤ c && c ≤ 90)
def signC (c : UInt8) : Bool := c == 95 || c == 46 || c == 36
theorem rletter_f (c : UInt8) : quoinref15_letter.f c.toNat = some (letterC c) := by
  have := Go.Proofs.YtgihgmniijhfoaaDoor.Lex.bytes (p := fun c => quoinref15_letter.f c.toNat == some (letterC c)) (by decide +kernel) c
  simpa using this
theorem rsign_f (c : UInt8) : quoinref15_sign.f c.toNat = some (signC c) := by
  have := Go.Proofs.YtgihgmniijhfoaaDoor.Lex.bytes (p := fun c => quoinref15_sign.f c.toNat == some (signC c)) (by decide +kernel) c
  simpa using this
theorem rdigit_f (c : UInt8) : quoinref15_Digit.f c.toNat = some (digitC c) := by
  have := Go.Proofs.YtgihgmniijhfoaaDoor.Lex.bytes (p := fun c => quoinref15_Digit.f c.toNat == some (digitC c)) (by decide +kernel) c
  simpa using this
theorem rpart_f (c : UInt8) : quoinref15_part.f c.toNat = some (insideC c) := by
  have := Go.Proofs.YtgihgmniijhfoaaDoor.Lex.bytes (p := fun c => quoinref15_part.f c.toNat == some (insideC c)) (by decide +kernel) c
  simpa using this
theorem rmark_f (c : UInt8) : quoinref15_Mark.f c.toNat = some (markC c) := by
  have := Go.Proofs.YtgihgmniijhfoaaDoor.Lex.bytes (p := fun c => quoinref15_Mark.f c.toNat == some (markC c)) (by decide +kernel) c
  simpa using this
theorem resc_f (c : UInt8) : quoinref15_escape.f c.toNat = some ((unescL c).toNat : Int) := by
  have := Go.Proofs.YtgihgmniijhfoaaDoor.Lex.bytes (p := fun c => quoinref15_escape.f c.toNat == some ((unescL c).toNat : Int)) (by decide +kernel) c
  simpa using this
theorem start_is (c : UInt8) : startC c = (letterC c || signC c || c == 37) := by
  have := Go.Proofs.YtgihgmniijhfoaaDoor.Lex.bytes (p := fun c => startC c == (letterC c || signC c || c == 37)) (by decide +kernel) c
  simpa using this
theorem pct (c : UInt8) : ((c.toNat : Int) != 37) = !(c == 37) := by
  have := Go.Proofs.YtgihgmniijhfoaaDoor.Lex.bytes (p := fun c => ((c.toNat : Int) != 37) == !(c == 37)) (by decide +kernel) c
  simpa using this
theorem bee (c : UInt8) : ((c.toNat : Int) != 98) = !(c == 98) := by
  have := Go.Proofs.YtgihgmniijhfoaaDoor.Lex.bytes (p := fun c => ((c.toNat : Int) != 98) == !(c == 98)) (by decide +kernel) c
  simpa using this
theorem eff (c : UInt8) : ((c.toNat : Int) = 102) ↔ c = 102 := by
  have := Go.Proofs.YtgihgmniijhfoaaDoor.Lex.bytes (p := fun c => decide ((c.toNat : Int) = 102) == decide (c = 102)) (by decide +kernel) c
  simpa using this
theorem many_is_all (p : UInt8 → Bool) (l : List UInt8) : decide (many p l = l.length) = l.all p := by
  by_cases h : many p l = l.length
  · rw [decide_eq_true h]
    exact (List.all_eq_true.2 (all_many l h)).symm
  · rw [decide_eq_false h]
    cases ha : l.all p with
    | false => rfl
    | true => exact absurd (many_all l (List.all_eq_true.1 ha)) h
theorem all_drop (p : UInt8 → Bool) (s : ByteArray) (i : Nat) (h : i < s.size) : (s.data.toList.drop i).all p = (p s[i] && (s.data.toList.drop (i + 1)).all p) := by
  rw [LexW.drop_at s i h, List.all_cons]
theorem name_loop (s : ByteArray) (hs : s.size < 9223372036854775807) : ∀ (d i k : Nat), s.size = i + d → d < k → quoinref15_Name.l0 k s (i : Int) = some ((s.data.toList.drop i).all insideC) := by
  intro d
  induction d with
  | zero =>
    intro i k hi hk
    obtain ⟨k, rfl⟩ : ∃ m, k = m + 1 := ⟨k - 1, by omega⟩
    simp only [quoinref15_Name.l0]
    rw [if_neg (by omega), LexW.drop_end s i (by omega)]
    rfl
  | succ d ih =>
    intro i k hi hk
    obtain ⟨k, rfl⟩ : ∃ m, k = m + 1 := ⟨k - 1, by omega⟩
    have hlt : i < s.size := by omega
    simp only [quoinref15_Name.l0]
    rw [if_pos (by omega), if_pos (by omega), bt_lt s i hlt, rpart_f, all_drop _ s i hlt]
    simp only [Option.bind_some]
    by_cases hp : insideC s[i] = true
    · rw [if_pos hp, wrap_succ (by omega), ih (i + 1) k (by omega) (by omega), hp, Bool.true_and]
    · rw [if_neg hp, (by simpa using hp : insideC s[i] = false), Bool.false_and]
theorem rname_f (s : ByteArray) (hs : s.size < 9223372036854775807) (k : Nat) (hk : s.size + 1 < k) : quoinref15_Name.f k s = some (nameL s.data.toList) := by
  unfold quoinref15_Name.f nameL
  obtain ⟨k, rfl⟩ : ∃ m, k = m + 1 := ⟨k - 1, by omega⟩
  have hsd := size_data s
  cases h : s.data.toList with
  | nil =>
    rw [h] at hsd
    simp only [List.length_nil] at hsd
    rw [if_pos (by omega)]
    rfl
  | cons c t =>
    rw [h] at hsd
    simp only [List.length_cons] at hsd
    have h0 : 0 < s.size := by omega
    have hc : s[0] = c := by
      have := LexW.drop_at s 0 h0
      rw [List.drop_zero, h] at this
      injection this with this
      exact this.symm
    have hb := bt_lt s 0 h0
    rw [hc] at hb
    have hb' : bt s 0 = (c.toNat : Int) := hb
    have hl1 := name_loop s hs (s.size - 1) 1 k (by omega) (by omega)
    rw [h, List.drop_succ_cons, List.drop_zero] at hl1
    rw [if_neg (by omega)]
    by_cases hl : (s.size : Int) > 32
    · rw [if_pos hl]
      have e1 : decide (t.length < 32) = false := decide_eq_false (by omega)
      simp only [e1, Bool.false_and]
      rfl
    · have e1 : decide (t.length < 32) = true := decide_eq_true (by omega)
      rw [if_neg hl, if_pos (by omega), hb', rletter_f, rsign_f, pct]
      simp only [Option.bind_some, e1, Bool.true_and, many_is_all, start_is, quoinref15_Name.j0]
      have hl2 : quoinref15_Name.l0 k s 1 = some (t.all insideC) := hl1
      rw [hl2]
      cases letterC c <;> cases signC c <;> cases (c == 37) <;> rfl
theorem local_loop (s : ByteArray) (hs : s.size < 9223372036854775807) (h1 : 1 ≤ s.size) : ∀ (d i k : Nat), s.size - 1 = i + d → d < k → quoinref15_Local.l0 k s (s.size : Int) (i : Int) = some (((s.data.toList.take (s.size - 1)).drop i).all digitC) := by
  have hw : wrap64 ((s.size : Int) - 1) = ((s.size - 1 : Nat) : Int) := by unfold wrap64; omega
  have hsd := size_data s
  intro d
  induction d with
  | zero =>
    intro i k hi hk
    obtain ⟨k, rfl⟩ : ∃ m, k = m + 1 := ⟨k - 1, by omega⟩
    simp only [quoinref15_Local.l0]
    rw [hw, if_neg (by omega), List.drop_eq_nil_of_le (by rw [List.length_take]; omega)]
    rfl
  | succ d ih =>
    intro i k hi hk
    obtain ⟨k, rfl⟩ : ∃ m, k = m + 1 := ⟨k - 1, by omega⟩
    have hlt : i < s.size := by omega
    have hd : (s.data.toList.take (s.size - 1)).drop i = s[i] :: (s.data.toList.take (s.size - 1)).drop (i + 1) := by
      rw [List.drop_eq_getElem_cons (by rw [List.length_take]; omega)]
      congr 1
      rw [List.getElem_take]
      rfl
    simp only [quoinref15_Local.l0]
    rw [hw, if_pos (by omega), if_pos (by omega), if_pos (by omega), bt_lt s i hlt, rdigit_f, hd, List.all_cons]
    simp only [Option.bind_some]
    by_cases hp : digitC s[i] = true
    · rw [if_pos hp, wrap_succ (by omega), ih (i + 1) k (by omega) (by omega), hp, Bool.true_and]
    · rw [if_neg hp, (by simpa using hp : digitC s[i] = false), Bool.false_and]
theorem local_is (l : List UInt8) (c : UInt8) : localL (l ++ [c]) = (decide (1 ≤ l.length) && decide (l.length ≤ 9) && (c == 102 || c == 98) && l.all digitC) := by
  unfold localL
  by_cases ha : l.all digitC = true
  · rw [ha, Bool.and_true]
    have hp := many_pre (p := digitC) l [c] (List.all_eq_true.1 ha)
    rw [hp]
    by_cases hc : digitC c = true
    · have hm : many digitC [c] = 1 := by simp [many, hc]
      have hne : (c == 102 || c == 98) = false := by
        have := Go.Proofs.YtgihgmniijhfoaaDoor.Lex.bytes (p := fun c => !digitC c || !(c == 102 || c == 98)) (by decide +kernel) c
        simp only [hc, Bool.not_true, Bool.false_or] at this
        simpa using this
      rw [hm, hne, List.length_append, List.length_cons, List.length_nil, decide_eq_false (by omega : ¬ l.length + (0 + 1) = l.length + 1 + 1)]
      simp
    · have hm : many digitC [c] = 0 := by simp [many, hc]
      rw [hm, Nat.add_zero, List.length_append, List.length_cons, List.length_nil, decide_eq_true (by omega : l.length + (0 + 1) = l.length + 1), Bool.and_true]
      have : (l ++ [c]).getD l.length 0 = c := by simp [List.getD]
      rw [this]
  · rw [(by simpa using ha : l.all digitC = false), Bool.and_false]
    have hne : many digitC (l ++ [c]) ≠ l.length := by
      intro h
      have := many_take (p := digitC) (l ++ [c])
      rw [h, List.take_left'  rfl] at this
      exact ha (List.all_eq_true.2 this)
    by_cases he : (l ++ [c]).length = many digitC (l ++ [c]) + 1
    · rw [List.length_append, List.length_cons, List.length_nil] at he
      omega
    · rw [decide_eq_false he, Bool.and_false, Bool.false_and]
theorem rlocal_f (s : ByteArray) (hs : s.size < 9223372036854775807) (k : Nat) (hk : s.size + 1 < k) : quoinref15_Local.f k s = some (localL s.data.toList) := by
  unfold quoinref15_Local.f
  obtain ⟨k, rfl⟩ : ∃ m, k = m + 1 := ⟨k - 1, by omega⟩
  have hsd := size_data s
  by_cases h2 : (s.size : Int) < 2
  · rw [if_pos h2]
    have : localL s.data.toList = false := by
      cases h : localL s.data.toList with
      | false => rfl
      | true =>
        have := local_facts h
        omega
    rw [this]
    rfl
  rw [if_neg h2]
  have hlt : s.size - 1 < s.size := by omega
  have hsp : s.data.toList = s.data.toList.take (s.size - 1) ++ [s[s.size - 1]] := by
    have h1 := LexW.drop_at s (s.size - 1) hlt
    rw [LexW.drop_end s (s.size - 1 + 1) (by omega)] at h1
    rw [← h1, List.take_append_drop]
  have hlen : (s.data.toList.take (s.size - 1)).length = s.size - 1 := by rw [List.length_take]; omega
  have hli := local_is (s.data.toList.take (s.size - 1)) s[s.size - 1]
  rw [← hsp, hlen] at hli
  rw [hli, decide_eq_true (by omega : 1 ≤ s.size - 1), Bool.true_and]
  by_cases h10 : (s.size : Int) > 10
  · rw [if_pos h10, decide_eq_false (by omega)]
    rfl
  rw [if_neg h10, decide_eq_true (by omega : s.size - 1 ≤ 9), Bool.true_and]
  have hw : wrap64 ((s.size : Int) - 1) = ((s.size - 1 : Nat) : Int) := by unfold wrap64; omega
  have hl := local_loop s hs (by omega) (s.size - 1) 0 k (by omega) (by omega)
  rw [List.drop_zero] at hl
  have hl2 : quoinref15_Local.l0 k s (s.size : Int) 0 = some ((s.data.toList.take (s.size - 1)).all digitC) := hl
  rw [hw, if_pos (by omega), if_pos (by omega), bt_lt s _ hlt, bee]
  simp only [eff, quoinref15_Local.j0, hl2]
  generalize (s.data.toList.take (s.size - 1)).all digitC = b
  generalize s[s.size - 1] = c
  by_cases hf : c = 102
  · rw [if_pos hf, hf]
    cases b <;> rfl
  · rw [if_neg hf]
    have : (c == 102) = false := by simpa using hf
    rw [this]
    cases (c == 98) <;> cases b <;> rfl
theorem tens1 (n : Nat) (h : n < 10) (k : Nat) : quoinref15_tens.f (k + 1) (n : Int) = some ⟨(decL n).toArray⟩ := by
  simp only [quoinref15_tens.f]
  have hw : wrap64 ((n : Int) + 1) = ((n + 1 : Nat) : Int) := wrap_succ (by omega)
  rw [if_pos (by omega), if_pos (by omega), if_pos (by rw [hw]; omega), if_pos (by rw [hw]; omega), hw, Int.toNat_natCast, Int.toNat_natCast, decL, if_pos h]
  have : ∀ n, n < 10 → (⟨#[48, 49, 50, 51, 52, 53, 54, 55, 56, 57, 97, 98, 99, 100, 101, 102]⟩ : ByteArray).extract n (n + 1) = ⟨[decDig n].toArray⟩ := by decide +kernel
  rw [this n h]
theorem tens_f : ∀ (k n : Nat), 0 < k → n < 10 ^ k → n < 1000000000000000000 → quoinref15_tens.f k (n : Int) = some ⟨(decL n).toArray⟩ := by
  intro k
  induction k with
  | zero => intro n h; omega
  | succ k ih =>
    intro n _ h hb
    by_cases h10 : n < 10
    · exact tens1 n h10 k
    · have hk : 0 < k := by
        rcases Nat.eq_zero_or_pos k with rfl | h'
        · omega
        · exact h'
      simp only [quoinref15_tens.f]
      have hdiv : wrap64 (Int.tdiv (n : Int) 10) = ((n / 10 : Nat) : Int) := by
        rw [Int.tdiv_eq_ediv_of_nonneg (by omega)]
        unfold wrap64
        omega
      have hmod : Int.tmod (n : Int) 10 = ((n % 10 : Nat) : Int) := by
        rw [Int.tmod_eq_emod_of_nonneg (by omega)]
        omega
      obtain ⟨j, rfl⟩ : ∃ j, k = j + 1 := ⟨k - 1, by omega⟩
      rw [if_neg (by omega), hdiv, hmod, ih (n / 10) hk (by rw [Nat.pow_succ] at h; omega) (by omega), tens1 (n % 10) (by omega) j]
      simp only [Option.bind_some]
      have hl := dec_len 18 (n / 10) (by decide) (by omega)
      have hl1 : (decL (n % 10)).length = 1 := by rw [decL, if_pos (by omega)]; rfl
      rw [if_pos (by rw [size_of, size_of]; omega)]
      have e : decL n = decL (n / 10) ++ decL (n % 10) := by
        rw [decL, if_neg h10]
        congr 1
        rw [decL, if_pos (by omega)]
      rw [e]
      congr 1
theorem hexPad_front : ∀ (j n : Nat), hexPad (j + 1) n = hexDig (n / 16 ^ j % 16) :: hexPad j n
  | 0, n => by simp [hexPad]
  | j + 1, n => by
    rw [hexPad, hexPad_front j (n / 16), hexPad, List.cons_append, Nat.div_div_eq_div_mul, Nat.pow_succ, Nat.mul_comm]
theorem dig16 : ∀ n, n < 16 → (⟨#[48, 49, 50, 51, 52, 53, 54, 55, 56, 57, 97, 98, 99, 100, 101, 102]⟩ : ByteArray).extract n (n + 1) = ⟨[hexDig n].toArray⟩ := by decide +kernel
theorem hex_loop (N : Nat) (hN : N < 18446744073709551616) : ∀ (d i k : Nat), 16 = i + d → d < k → 
    quoinref15_Told.l0 k ⟨(hexPad i N).toArray⟩ ((N / 16 ^ i : Nat) : Int) (i : Int) = some (⟨([48, 120] ++ hexPad 16 N).toArray⟩, true) := by
  intro d
  induction d with
  | zero =>
    intro i k hi hk
    obtain ⟨k, rfl⟩ : ∃ m, k = m + 1 := ⟨k - 1, by omega⟩
    obtain rfl : i = 16 := by omega
    simp only [quoinref15_Told.l0]
    rw [if_neg (by omega), if_pos (by rw [size_of, hexPad_len]; omega)]
    congr 2
  | succ d ih =>
    intro i k hi hk
    obtain ⟨k, rfl⟩ : ∃ m, k = m + 1 := ⟨k - 1, by omega⟩
    simp only [quoinref15_Told.l0]
    have hlt : N / 16 ^ i < 18446744073709551616 := Nat.lt_of_le_of_lt (Nat.div_le_self _ _) hN
    generalize hM : N / 16 ^ i = M at *
    have hmod : Int.tmod (M : Int) 16 = ((M % 16 : Nat) : Int) := by
      rw [Int.tmod_eq_emod_of_nonneg (by omega)]
      omega
    have hdiv : IntKind.u64.wrap (Int.tdiv (M : Int) 16) = ((M / 16 : Nat) : Int) := by
      rw [Int.tdiv_eq_ediv_of_nonneg (by omega), IntKind.wrap_u64]
      omega
    have hw : IntKind.u64.wrap (((M % 16 : Nat) : Int) + 1) = ((M % 16 + 1 : Nat) : Int) := by
      rw [IntKind.wrap_u64]
      omega
    rw [hmod, hw, hdiv, Int.toNat_natCast, Int.toNat_natCast, dig16 _ (Nat.mod_lt _ (by decide))]
    rw [if_pos (by omega), if_pos (by omega), if_pos (by omega), if_pos (by omega), if_pos (by rw [size_of, size_of, hexPad_len]; simp only [List.length_cons, List.length_nil]; omega), wrap_succ (by omega)]
    have h := ih (i + 1) k (by omega) (by omega)
    rw [hexPad_front, hM, Nat.pow_succ, ← Nat.div_div_eq_div_mul, hM] at h
    rw [← h]
    congr 1
theorem nm_app (b c : List UInt8) : LexW.nm b ++ LexW.nm c = LexW.nm (b ++ c) := by simp [LexW.nm]
theorem nm_len (b : List UInt8) : (LexW.nm b).length = b.length := by simp [LexW.nm]
theorem plain_lt (c : UInt8) : plainC c = (!decide ((c.toNat : Int) < 32) && !decide ((c.toNat : Int) > 126)) := by
  have := Go.Proofs.YtgihgmniijhfoaaDoor.Lex.bytes (p := fun c => plainC c == (!decide ((c.toNat : Int) < 32) && !decide ((c.toNat : Int) > 126))) (by decide +kernel) c
  simpa using this
theorem esc0 (c : UInt8) : ((unescL c).toNat : Int) = 0 ↔ unescL c = 0 := by
  have := Go.Proofs.YtgihgmniijhfoaaDoor.Lex.bytes (p := fun c => decide (((unescL c).toNat : Int) = 0) == decide (unescL c = 0)) (by decide +kernel) c
  simpa using this
theorem quote_loop (s : ByteArray) (hs : s.size ≤ 1000) (a n : Int) : ∀ (d i k : Nat) (b : List UInt8), s.size = i + d → d < k → b.length ≤ 2 * i + 1 → 
    quoinref15_Told.l1 k (LexW.nm b) (i : Int) a s n = some (match shownL (s.data.toList.drop i) b with | none => ((⟨#[]⟩ : ByteArray), false) | some z => (⟨z.toArray⟩, true)) := by
  intro d
  induction d with
  | zero =>
    intro i k b hi hk hb
    obtain ⟨k, rfl⟩ : ∃ m, k = m + 1 := ⟨k - 1, by omega⟩
    simp only [quoinref15_Told.l1]
    rw [if_neg (by omega), LexW.drop_end s i (by omega), if_pos (by rw [nm_len]; omega)]
    simp only [shownL]
    rw [show ([34] : List Int) = LexW.nm [34] from rfl, nm_app, LexW.str_nm]
  | succ d ih =>
    intro i k b hi hk hb
    obtain ⟨k, rfl⟩ : ∃ m, k = m + 1 := ⟨k - 1, by omega⟩
    have hlt : i < s.size := by omega
    simp only [quoinref15_Told.l1]
    rw [if_pos (by omega), if_pos (by omega), bt_lt s i hlt, resc_f, LexW.drop_at s i hlt, shownL]
    simp only [Option.bind_some, esc0]
    by_cases h0 : unescL s[i] = 0
    · rw [if_pos h0, if_neg (show ¬ unescL s[i] ≠ 0 from fun h => h h0), plain_lt]
      by_cases h1 : (s[i].toNat : Int) < 32
      · rw [if_pos h1, decide_eq_true h1]
        rfl
      · rw [if_neg h1, decide_eq_false h1]
        by_cases h2 : (s[i].toNat : Int) > 126
        · rw [if_pos h2, decide_eq_true h2]
          rfl
        · rw [if_neg h2, decide_eq_false h2, if_pos (by rw [nm_len]; omega), wrap_succ (by omega), show ([(s[i].toNat : Int)]) = LexW.nm [s[i]] from rfl, nm_app, ih (i + 1) k _ (by omega) (by omega) (by simp only [List.length_append, List.length_cons, List.length_nil]; omega)]
          rfl
    · rw [if_neg h0, if_pos h0, if_pos (by rw [nm_len]; simp only [List.length_cons, List.length_nil]; omega), wrap_succ (by omega), show ([92, ((unescL s[i]).toNat : Int)]) = LexW.nm [92, unescL s[i]] from rfl, nm_app, ih (i + 1) k _ (by omega) (by omega) (by simp only [List.length_append, List.length_cons, List.length_nil]; omega)]
theorem may_num {x : Tok} (h2 : x.k ≠ 2) (hz : x.n ≠ 0) : mayL x = false := by
  unfold mayL textL
  rw [decide_eq_false hz]
  split
  · simp
  split
  · simp
  split
  · split <;> simp
  rfl
theorem j1_dec (m k : Nat) (a : Int) (s : ByteArray) (hm : m < 1000000000000000000) (hk : 18 ≤ k) : quoinref15_Told.j1 (k + 1) true a s (m : Int) = some (⟨(decL m).toArray⟩, true) := by
  have h18 : m < 10 ^ 18 := by omega
  have hp : 10 ^ 18 ≤ 10 ^ k := Nat.pow_le_pow_right (by omega) hk
  simp only [quoinref15_Told.j1]
  rw [if_pos trivial, tens_f k m (by omega) (Nat.lt_of_lt_of_le h18 hp) hm]
  rfl
theorem j1_hex (n : Int) (k : Nat) (a : Int) (s : ByteArray) (hn : -9223372036854775808 ≤ n ∧ n < 9223372036854775808) (hk : 20 < k) : quoinref15_Told.j1 (k + 1) false a s n = some (⟨([48, 120] ++ hexPad 16 (ofI64 n)).toArray⟩, true) := by
  simp only [quoinref15_Told.j1]
  rw [if_neg (by simp), wrapU n hn.1 hn.2]
  have hlt : ofI64 n < 18446744073709551616 := by have := ofI64_lt n; omega
  have hx := hex_loop (ofI64 n) hlt 16 0 k rfl (by omega)
  rw [show hexPad 0 (ofI64 n) = [] from rfl, Nat.pow_zero, Nat.div_one] at hx
  exact hx
theorem told_num (s : ByteArray) (n : Int) (hs : s.data.toList = []) (hn : -9223372036854775808 ≤ n ∧ n < 9223372036854775808) (k : Nat) (hk : 20 < k) (b : Bool) (hb : b = decide (0 ≤ n ∧ n < 1000000000000000000)) :
    quoinref15_Told.j1 (k + 1) b 2 s n = some (⟨(textL ⟨2, s.data.toList, n⟩).1.toArray⟩, mayL ⟨2, s.data.toList, n⟩) := by
  unfold mayL
  by_cases hr : 0 ≤ n ∧ n < 1000000000000000000
  · rw [text_dec (x := ⟨2, s.data.toList, n⟩) rfl hr, hb, decide_eq_true hr]
    obtain ⟨m, rfl⟩ : ∃ m : Nat, n = m := ⟨n.toNat, by omega⟩
    rw [j1_dec m k 2 s (by omega) (by omega), Int.toNat_natCast, hs]
    rfl
  · rw [text_hex (x := ⟨2, s.data.toList, n⟩) rfl hr, hb, decide_eq_false hr, j1_hex n k 2 s hn hk, hs]
    rfl
theorem told_f (x : S41) (h0 : 0 ≤ x.f0) (hs : x.f1.size ≤ 1000000) (hn : numOk (toTok x)) (k : Nat) (hk : x.f1.size + 400 < k) :
    ∃ b, quoinref15_Told.f k x.f0 x.f1 x.f2 = some (b, mayL (toTok x)) ∧ (mayL (toTok x) = true → b = ⟨(textL (toTok x)).1.toArray⟩) := by
  obtain ⟨a, s, n⟩ := x
  have hn' : -9223372036854775808 ≤ n ∧ n < 9223372036854775808 := hn
  simp only at h0 hs hk
  obtain ⟨k, rfl⟩ : ∃ m, k = m + 2 := ⟨k - 2, by omega⟩
  unfold quoinref15_Told.f
  simp only
  by_cases h2 : a = 2
  · subst h2
    rw [if_pos rfl]
    simp only [quoinref15_Told.j0]
    have hd : (s.toList != ([] : List UInt8)) = !decide (s.data.toList = []) := by
      rw [← decide_nil]
      rfl
    rw [hd]
    by_cases he : s.data.toList = []
    · rw [decide_eq_true he]
      have key := told_num s n he hn' k (by omega)
      refine ⟨_, ?_, fun _ => rfl⟩
      simp only [Bool.not_true, Bool.false_eq_true, if_false]
      rw [if_neg (by decide), if_pos trivial]
      by_cases hge : n ≥ 0
      · rw [if_pos hge]
        exact key _ (by simp [hge])
      · rw [if_neg hge]
        exact key _ (by simp [hge])
    · rw [decide_eq_false he]
      have : mayL (toTok ⟨2, s, n⟩) = false := by
        rw [show toTok ⟨2, s, n⟩ = ⟨2, s.data.toList, n⟩ from rfl]
        unfold mayL textL
        simp only
        rw [if_neg (show ¬ (2 : Nat) = 1 by decide), if_neg (show ¬ (2 : Nat) = 4 by decide), if_neg (show ¬ (2 : Nat) = 3 by decide), if_pos trivial]
        split
        · exact decide_eq_false he
        · exact decide_eq_false he
      rw [this]
      exact ⟨_, rfl, by simp⟩
  rw [if_neg h2]
  by_cases hz : n = 0
  · rw [if_pos hz]
    simp only [quoinref15_Told.j0, Bool.false_eq_true, if_false]
    have hz' : decide (n = 0) = true := decide_eq_true hz
    rw [show toTok ⟨a, s, n⟩ = ⟨a.toNat, s.data.toList, n⟩ from rfl]
    unfold mayL textL
    simp only
    by_cases h1 : a = 1
    · subst h1
      rw [if_pos rfl, if_pos (show (1 : Int).toNat = 1 from rfl), rname_f s (by omega) (k + 1) (by omega), rlocal_f s (by omega) (k + 1) (by omega), hz', Bool.true_and]
      simp only [Option.bind_some]
      refine ⟨s, ?_, fun _ => rfl⟩
      cases nameL s.data.toList <;> cases localL s.data.toList <;> rfl
    rw [if_neg h1, if_neg h2, if_neg (show ¬ a.toNat = 1 by omega)]
    by_cases h3 : a = 3
    · subst h3
      rw [if_pos rfl, if_neg (show ¬ (3 : Int).toNat = 4 by decide), if_pos (show (3 : Int).toNat = 3 from rfl), hz']
      by_cases hl : (s.size : Int) > 256
      · rw [if_pos hl]
        refine ⟨⟨#[]⟩, ?_, ?_⟩
        · cases shownL s.data.toList [34] with
          | none => rfl
          | some z =>
            simp only [Bool.true_and]
            rw [size_data, decide_eq_false (by omega)]
        · cases shownL s.data.toList [34] with
          | none => simp
          | some z =>
            simp only [Bool.true_and]
            rw [size_data, decide_eq_false (by omega)]
            simp
      · rw [if_neg hl]
        have hq := quote_loop s (by omega) 3 n s.size 0 (k + 1) [34] (by omega) (by omega) (by simp)
        rw [List.drop_zero] at hq
        have hq2 : quoinref15_Told.l1 (k + 1) [34] 0 3 s n = _ := hq
        rw [hq2, size_data, decide_eq_true (by omega : s.size ≤ 256)]
        cases shownL s.data.toList [34] with
        | none => exact ⟨_, rfl, by simp⟩
        | some z => exact ⟨_, rfl, fun _ => rfl⟩
    rw [if_neg h3]
    by_cases h4 : a = 4
    · subst h4
      rw [if_pos rfl, if_pos (show (4 : Int).toNat = 4 from rfl), hz', Bool.true_and]
      by_cases hl : (s.size : Int) = 1
      · have h1 : 0 < s.size := by omega
        have hg : s.data.toList.getD 0 0 = s[0] := by
          have : 0 < s.data.toList.length := by rw [size_data]; exact h1
          simp [List.getD, List.getElem?_eq_getElem this]
          rfl
        rw [if_pos hl, if_pos (by omega), show bt s 0 = (s[0].toNat : Int) from bt_lt s 0 h1, rmark_f, hg, size_data, decide_eq_true (by omega)]
        exact ⟨s, rfl, fun _ => rfl⟩
      · rw [if_neg hl, size_data, decide_eq_false (by omega)]
        exact ⟨s, rfl, fun _ => rfl⟩
    rw [if_neg h4, if_neg (show ¬ a.toNat = 4 by omega), if_neg (show ¬ a.toNat = 3 by omega), if_neg (show ¬ a.toNat = 2 by omega)]
    exact ⟨_, rfl, fun _ => rfl⟩
  · rw [if_neg hz]
    have := may_num (x := toTok ⟨a, s, n⟩) (by simp only [toTok]; omega) hz
    rw [this]
    exact ⟨_, rfl, by simp⟩
theorem rcheck_f (x : S41) (h0 : 0 ≤ x.f0) (hs : x.f1.size ≤ 1000000) (hn : numOk (toTok x)) (k : Nat) (hk : x.f1.size + 400 < k) : quoinref15_Check.f k x.f0 x.f1 x.f2 = some (if mayL (toTok x) = true then 0 else 8) := by
  unfold quoinref15_Check.f
  obtain ⟨b, hb, _⟩ := told_f x h0 hs hn k hk
  rw [hb]
  simp only [Option.bind_some]
  split <;> rfl
end Go.Proofs.YtgihgmniijhfoaaDoor.ZR
