/- What the document's own functions on words compute, on lists of bytes: names and lists. -/
import Derived.Test.YtgihgmniijhfoaaDoorPx12
import Derived.Test.YtgihgmniijhfoaaDoorPx11
import Derived.Test.YtgihgmniijhfoaaDoorPx10
namespace Go.Proofs.YtgihgmniijhfoaaDoor.ZR
open Go.RowKit Go.Proofs.YtgihgmniijhfoaaDoor.P Go.Proofs.YtgihgmniijhfoaaDoor.P.TK.ZT Go.Proofs.YtgihgmniijhfoaaDoorW.PrintWords Go.Proofs.YtgihgmniijhfoaaDoorW.PrintLast Go.Proofs.YtgihgmniijhfoaaDoorW.PrintMore Go.Proofs.YtgihgmniijhfoaaDoor.Lex
set_option linter.unusedVariables false
set_option linter.unusedSimpArgs false
theorem wf64 {x : Int} (h : (Lit.int .i64 x).wf = true) : -9223372036854775808 ≤ x ∧ x < 9223372036854775808 := by
  simp [Lit.wf, IntKind.min, IntKind.max, IntKind.signed, IntKind.bits] at h
  omega
theorem wfu8 {x : Int} (h : (Lit.int .u8 x).wf = true) : 0 ≤ x ∧ x ≤ 255 := by
  simp [Lit.wf, IntKind.min, IntKind.max, IntKind.signed, IntKind.bits] at h
  omega
def okS (M : Nat) (x : S41) : Prop := 0 ≤ x.f0 ∧ x.f1.size ≤ M ∧ numOk (toTok x)
theorem rd_at (l : List S41) (i : Nat) (h : i < l.length) : rd_T41 l (i : Int) = l[i] := by
  simp [rd_T41, List.getD, List.getElem?_eq_getElem h]
theorem tok_same (x : S41) : ¬ ((!(x.f0 == x.f0) || (!(x.f1.toList == x.f1.toList) || !(x.f2 == x.f2))) = true) := by simp
theorem same_loop (x : List S41) (hx : x.length ≤ 10000000) : ∀ (d i k : Nat), x.length = i + d → d < k → quoinref15_Same.l0 k x x (i : Int) = some true := by
  intro d
  induction d with
  | zero =>
    intro i k hi hk
    obtain ⟨k, rfl⟩ : ∃ m, k = m + 1 := ⟨k - 1, by omega⟩
    simp only [quoinref15_Same.l0]
    rw [if_neg (by omega)]
  | succ d ih =>
    intro i k hi hk
    obtain ⟨k, rfl⟩ : ∃ m, k = m + 1 := ⟨k - 1, by omega⟩
    simp only [quoinref15_Same.l0]
    rw [if_pos (by omega), if_pos (by omega), if_pos (by omega), if_neg (tok_same _), wrap_succ (by omega)]
    exact ih (i + 1) k (by omega) (by omega)
theorem same_f (x : List S41) (hx : x.length ≤ 10000000) (k : Nat) (hk : x.length < k) : quoinref15_Same.f k x x = some true := by
  unfold quoinref15_Same.f
  rw [if_pos rfl]
  exact same_loop x hx x.length 0 k (by omega) hk
theorem great_loop (l : List S41) (hl : l.length ≤ maxLen) : ∀ (d i n k : Nat), i + d = 300 → d + 1 < k → n ≤ 100000 * i →
    ∃ g, quoinref15_Great.l0 k l (n : Int) (i : Int) = some g ∧ (g = false → l.length ≤ 200 ∧ n ≤ 20000 ∧ ∀ j, i ≤ j → (h : j < l.length) → l[j].f1.size ≤ 20000) := by
  intro d
  induction d with
  | zero =>
    intro i n k hi hk hn
    obtain ⟨k, rfl⟩ : ∃ m, k = m + 1 := ⟨k - 1, by omega⟩
    simp only [quoinref15_Great.l0]
    by_cases h1 : (i : Int) < l.length
    · rw [if_pos h1, if_neg (by omega), if_pos (by omega)]
      exact ⟨true, rfl, by simp⟩
    · rw [if_neg h1]
      by_cases h2 : (l.length : Int) > 200
      · rw [if_pos h2]
        exact ⟨true, rfl, by simp⟩
      · rw [if_neg h2]
        refine ⟨_, rfl, fun h => ⟨by omega, ?_, fun j hj h => by omega⟩⟩
        have := of_decide_eq_false h
        omega
  | succ d ih =>
    intro i n k hi hk hn
    obtain ⟨k, rfl⟩ : ∃ m, k = m + 1 := ⟨k - 1, by omega⟩
    simp only [quoinref15_Great.l0]
    by_cases h1 : (i : Int) < l.length
    · rw [if_pos h1, if_pos (by omega), if_pos (by omega), rd_at l i (by omega)]
      have hmn : mn ((l[i]'(by omega)).f1.size : Int) 100000 = ((min (l[i]'(by omega)).f1.size 100000 : Nat) : Int) := by
        unfold mn
        split <;> omega
      rw [hmn, wrap_succ (by omega), show wrap64 ((n : Int) + ((min (l[i]'(by omega)).f1.size 100000 : Nat) : Int)) = ((n + min (l[i]'(by omega)).f1.size 100000 : Nat) : Int) by unfold wrap64; omega]
      obtain ⟨g, hg, h⟩ := ih (i + 1) (n + min (l[i]'(by omega)).f1.size 100000) k (by omega) (by omega) (by omega)
      refine ⟨g, hg, fun hf => ?_⟩
      obtain ⟨a, b, c⟩ := h hf
      refine ⟨a, by omega, fun j hj hlt => ?_⟩
      by_cases he : j = i
      · subst he
        omega
      · exact c j (by omega) hlt
    · rw [if_neg h1]
      by_cases h2 : (l.length : Int) > 200
      · rw [if_pos h2]
        exact ⟨true, rfl, by simp⟩
      · rw [if_neg h2]
        refine ⟨_, rfl, fun h => ⟨by omega, ?_, fun j hj h => by omega⟩⟩
        have := of_decide_eq_false h
        omega
theorem great_f (l : List S41) (hl : l.length ≤ maxLen) (k : Nat) (hk : 400 ≤ k) : ∃ g, quoinref15_Great.f k l = some g ∧ (g = false → l.length ≤ 200 ∧ ∀ x ∈ l, x.f1.size ≤ 20000) := by
  obtain ⟨g, hg, h⟩ := great_loop l hl 300 0 0 k rfl (by omega) (by omega)
  refine ⟨g, hg, fun hf => ⟨(h hf).1, fun x hx => ?_⟩⟩
  obtain ⟨j, hj, rfl⟩ := List.mem_iff_getElem.1 hx
  exact (h hf).2.2 j (by omega) hj
def letterC (c : UInt8) : Bool := (97 ≤ c && c ≤ 122) || (65 ≤ c && c ≤ 90)
def signC (c : UInt8) : Bool := c == 95 || c == 46 || c == 36
theorem rletter_f (c : UInt8) : quoinref15_letter.f c.toNat = some (letterC c) := by
  have := Go.Proofs.YtgihgmniijhfoaaDoor.Lex.bytes (p := fun c => quoinref15_letter.f c.toNat == some (letterC c)) (by decide +kernel) c
  simpa using this
theorem rsign_f (c : UInt8) : quoinref15_sign.f c.toNat = some (signC c) := by
  have := Go.Proofs.YtgihgmniijhfoaaDoor.Lex.bytes (p := fun c => quoinref15_sign.f c.toNat == some (signC c)) (by decide +kernel) c
  simpa using this
theorem rdigit_f (c : UInt8) : quoinref15_Digit.f c.toNat = some (digitC c) := by
  have := Go.Proofs.YtgihgmniijhfoaaDoor.Lex.bytes (p := fun c => quoinref15_Digit.f c.toNat == some (digitC c)) (by decide +kernel) c
  simpa using this
theorem rpart_f (c : UInt8) : quoinref15_part.f c.toNat = some (insideC c) := by
  have := Go.Proofs.YtgihgmniijhfoaaDoor.Lex.bytes (p := fun c => quoinref15_part.f c.toNat == some (insideC c)) (by decide +kernel) c
  simpa using this
theorem start_is (c : UInt8) : startC c = (letterC c || signC c || c == 37) := by
  have := Go.Proofs.YtgihgmniijhfoaaDoor.Lex.bytes (p := fun c => startC c == (letterC c || signC c || c == 37)) (by decide +kernel) c
  simpa using this
theorem pct (c : UInt8) : ((c.toNat : Int) != 37) = !(c == 37) := by
  have := Go.Proofs.YtgihgmniijhfoaaDoor.Lex.bytes (p := fun c => ((c.toNat : Int) != 37) == !(c == 37)) (by decide +kernel) c
  simpa using this
theorem bee (c : UInt8) : ((c.toNat : Int) != 98) = !(c == 98) := by
  have := Go.Proofs.YtgihgmniijhfoaaDoor.Lex.bytes (p := fun c => ((c.toNat : Int) != 98) == !(c == 98)) (by decide +kernel) c
  simpa using this
theorem eff (c : UInt8) : ((c.toNat : Int) = 102) ↔ c = 102 := by
  have := Go.Proofs.YtgihgmniijhfoaaDoor.Lex.bytes (p := fun c => decide ((c.toNat : Int) = 102) == decide (c = 102)) (by decide +kernel) c
  simpa using this
theorem many_is_all (p : UInt8 → Bool) (l : List UInt8) : decide (many p l = l.length) = l.all p := by
  by_cases h : many p l = l.length
  · rw [decide_eq_true h]
    exact (List.all_eq_true.2 (all_many l h)).symm
  · rw [decide_eq_false h]
    cases ha : l.all p with
    | false => rfl
    | true => exact absurd (many_all l (List.all_eq_true.1 ha)) h
theorem all_drop (p : UInt8 → Bool) (s : ByteArray) (i : Nat) (h : i < s.size) : (s.data.toList.drop i).all p = (p s[i] && (s.data.toList.drop (i + 1)).all p) := by
  rw [LexW.drop_at s i h, List.all_cons]
theorem name_loop (s : ByteArray) (hs : s.size < 9223372036854775807) : ∀ (d i k : Nat), s.size = i + d → d < k → quoinref15_Name.l0 k s (i : Int) = some ((s.data.toList.drop i).all insideC) := by
  intro d
  induction d with
  | zero =>
    intro i k hi hk
    obtain ⟨k, rfl⟩ : ∃ m, k = m + 1 := ⟨k - 1, by omega⟩
    simp only [quoinref15_Name.l0]
    rw [if_neg (by omega), LexW.drop_end s i (by omega)]
    rfl
  | succ d ih =>
    intro i k hi hk
    obtain ⟨k, rfl⟩ : ∃ m, k = m + 1 := ⟨k - 1, by omega⟩
    have hlt : i < s.size := by omega
    simp only [quoinref15_Name.l0]
    rw [if_pos (by omega), if_pos (by omega), bt_lt s i hlt, rpart_f, all_drop _ s i hlt]
    simp only [Option.bind_some]
    by_cases hp : insideC s[i] = true
    · rw [if_pos hp, wrap_succ (by omega), ih (i + 1) k (by omega) (by omega), hp, Bool.true_and]
    · rw [if_neg hp, (by simpa using hp : insideC s[i] = false), Bool.false_and]
theorem rname_f (s : ByteArray) (hs : s.size < 9223372036854775807) (k : Nat) (hk : s.size + 1 < k) : quoinref15_Name.f k s = some (nameL s.data.toList) := by
  unfold quoinref15_Name.f nameL
  obtain ⟨k, rfl⟩ : ∃ m, k = m + 1 := ⟨k - 1, by omega⟩
  have hsd := size_data s
  cases h : s.data.toList with
  | nil =>
    rw [h] at hsd
    simp only [List.length_nil] at hsd
    rw [if_pos (by omega)]
    rfl
  | cons c t =>
    rw [h] at hsd
    simp only [List.length_cons] at hsd
    have h0 : 0 < s.size := by omega
    have hc : s[0] = c := by
      have := LexW.drop_at s 0 h0
      rw [List.drop_zero, h] at this
      injection this with this
      exact this.symm
    have hb := bt_lt s 0 h0
    rw [hc] at hb
    have hb' : bt s 0 = (c.toNat : Int) := hb
    have hl1 := name_loop s hs (s.size - 1) 1 k (by omega) (by omega)
    rw [h, List.drop_succ_cons, List.drop_zero] at hl1
    rw [if_neg (by omega)]
    by_cases hl : (s.size : Int) > 32
    · rw [if_pos hl]
      have e1 : decide (t.length < 32) = false := decide_eq_false (by omega)
      simp only [e1, Bool.false_and]
      rfl
    · have e1 : decide (t.length < 32) = true := decide_eq_true (by omega)
      rw [if_neg hl, if_pos (by omega), hb', rletter_f, rsign_f, pct]
      simp only [Option.bind_some, e1, Bool.true_and, many_is_all, start_is, quoinref15_Name.j0]
      have hl2 : quoinref15_Name.l0 k s 1 = some (t.all insideC) := hl1
      rw [hl2]
      cases letterC c <;> cases signC c <;> cases (c == 37) <;> rfl
theorem local_loop (s : ByteArray) (hs : s.size < 9223372036854775807) (h1 : 1 ≤ s.size) : ∀ (d i k : Nat), s.size - 1 = i + d → d < k → quoinref15_Local.l0 k s (s.size : Int) (i : Int) = some (((s.data.toList.take (s.size - 1)).drop i).all digitC) := by
  have hw : wrap64 ((s.size : Int) - 1) = ((s.size - 1 : Nat) : Int) := by unfold wrap64; omega
  have hsd := size_data s
  intro d
  induction d with
  | zero =>
    intro i k hi hk
    obtain ⟨k, rfl⟩ : ∃ m, k = m + 1 := ⟨k - 1, by omega⟩
    simp only [quoinref15_Local.l0]
    rw [hw, if_neg (by omega), List.drop_eq_nil_of_le (by rw [List.length_take]; omega)]
    rfl
  | succ d ih =>
    intro i k hi hk
    obtain ⟨k, rfl⟩ : ∃ m, k = m + 1 := ⟨k - 1, by omega⟩
    have hlt : i < s.size := by omega
    have hd : (s.data.toList.take (s.size - 1)).drop i = s[i] :: (s.data.toList.take (s.size - 1)).drop (i + 1) := by
      rw [List.drop_eq_getElem_cons (by rw [List.length_take]; omega)]
      congr 1
      rw [List.getElem_take]
      rfl
    simp only [quoinref15_Local.l0]
    rw [hw, if_pos (by omega), if_pos (by omega), if_pos (by omega), bt_lt s i hlt, rdigit_f, hd, List.all_cons]
    simp only [Option.bind_some]
    by_cases hp : digitC s[i] = true
    · rw [if_pos hp, wrap_succ (by omega), ih (i + 1) k (by omega) (by omega), hp, Bool.true_and]
    · rw [if_neg hp, (by simpa using hp : digitC s[i] = false), Bool.false_and]
theorem local_is (l : List UInt8) (c : UInt8) : localL (l ++ [c]) = (decide (1 ≤ l.length) && decide (l.length ≤ 9) && (c == 102 || c == 98) && l.all digitC) := by
  unfold localL
  by_cases ha : l.all digitC = true
  · rw [ha, Bool.and_true]
    have hp := many_pre (p := digitC) l [c] (List.all_eq_true.1 ha)
    rw [hp]
    by_cases hc : digitC c = true
    · have hm : many digitC [c] = 1 := by simp [many, hc]
      have hne : (c == 102 || c == 98) = false := by
        have := Go.Proofs.YtgihgmniijhfoaaDoor.Lex.bytes (p := fun c => !digitC c || !(c == 102 || c == 98)) (by decide +kernel) c
        simp only [hc, Bool.not_true, Bool.false_or] at this
        simpa using this
      rw [hm, hne, List.length_append, List.length_cons, List.length_nil, decide_eq_false (by omega : ¬ l.length + (0 + 1) = l.length + 1 + 1)]
      simp
    · have hm : many digitC [c] = 0 := by simp [many, hc]
      rw [hm, Nat.add_zero, List.length_append, List.length_cons, List.length_nil, decide_eq_true (by omega : l.length + (0 + 1) = l.length + 1), Bool.and_true]
      have : (l ++ [c]).getD l.length 0 = c := by simp [List.getD]
      rw [this]
  · rw [(by simpa using ha : l.all digitC = false), Bool.and_false]
    have hne : many digitC (l ++ [c]) ≠ l.length := by
      intro h
      have := many_take (p := digitC) (l ++ [c])
      rw [h, List.take_left'  rfl] at this
      exact ha (List.all_eq_true.2 this)
    by_cases he : (l ++ [c]).length = many digitC (l ++ [c]) + 1
    · rw [List.length_append, List.length_cons, List.length_nil] at he
      omega
    · rw [decide_eq_false he, Bool.and_false, Bool.false_and]
theorem rlocal_f (s : ByteArray) (hs : s.size < 9223372036854775807) (k : Nat) (hk : s.size + 1 < k) : quoinref15_Local.f k s = some (localL s.data.toList) := by
  unfold quoinref15_Local.f
  obtain ⟨k, rfl⟩ : ∃ m, k = m + 1 := ⟨k - 1, by omega⟩
  have hsd := size_data s
  by_cases h2 : (s.size : Int) < 2
  · rw [if_pos h2]
    have : localL s.data.toList = false := by
      cases h : localL s.data.toList with
      | false => rfl
      | true =>
        have := local_facts h
        omega
    rw [this]
    rfl
  rw [if_neg h2]
  have hlt : s.size - 1 < s.size := by omega
  have hsp : s.data.toList = s.data.toList.take (s.size - 1) ++ [s[s.size - 1]] := by
    have h1 := LexW.drop_at s (s.size - 1) hlt
    rw [LexW.drop_end s (s.size - 1 + 1) (by omega)] at h1
    rw [← h1, List.take_append_drop]
  have hlen : (s.data.toList.take (s.size - 1)).length = s.size - 1 := by rw [List.length_take]; omega
  have hli := local_is (s.data.toList.take (s.size - 1)) s[s.size - 1]
  rw [← hsp, hlen] at hli
  rw [hli, decide_eq_true (by omega : 1 ≤ s.size - 1), Bool.true_and]
  by_cases h10 : (s.size : Int) > 10
  · rw [if_pos h10, decide_eq_false (by omega)]
    rfl
  rw [if_neg h10, decide_eq_true (by omega : s.size - 1 ≤ 9), Bool.true_and]
  have hw : wrap64 ((s.size : Int) - 1) = ((s.size - 1 : Nat) : Int) := by unfold wrap64; omega
  have hl := local_loop s hs (by omega) (s.size - 1) 0 k (by omega) (by omega)
  rw [List.drop_zero] at hl
  have hl2 : quoinref15_Local.l0 k s (s.size : Int) 0 = some ((s.data.toList.take (s.size - 1)).all digitC) := hl
  rw [hw, if_pos (by omega), if_pos (by omega), bt_lt s _ hlt, bee]
  simp only [eff, quoinref15_Local.j0, hl2]
  generalize (s.data.toList.take (s.size - 1)).all digitC = b
  generalize s[s.size - 1] = c
  by_cases hf : c = 102
  · rw [if_pos hf, hf]
    cases b <;> rfl
  · rw [if_neg hf]
    have : (c == 102) = false := by simpa using hf
    rw [this]
    cases (c == 98) <;> cases b <;> rfl
end Go.Proofs.YtgihgmniijhfoaaDoor.ZR
