/- SectKinds: a name's kind is that of all names that go on from it with a point; and what a section that may be is; for any names and section. -/
import Derived.Test.YtomabnfeipobnaaZHeadAlive
import Derived.Test.YtomabnfeipobnaaPx26
namespace Go.Proofs.Ytomabnfeipobnaa.Pure
open Go.RowKit Go.Proofs.Ytomabnfeipobnaa.P Go.Proofs.YtomabnfeipobnaaW.PrintWords Go.Proofs.YtomabnfeipobnaaW.PrintLast Go.Proofs.Ytomabnfeipobnaa.Z
set_option linter.unusedSimpArgs false
set_option linter.unusedVariables false
theorem graphic_loop (s : ByteArray) (hs : s.size ≤ 9223372036854775806) (d : Nat) : ∀ (k i : Nat), i + d = s.size → d < k →
    quoinlaw09_graphic.l0 k s (i : Int) = some (restIn s i) := by
  induction d with
  | zero =>
    intro k i hi hk
    obtain ⟨k, rfl⟩ : ∃ m, k = m + 1 := ⟨k - 1, by omega⟩
    simp only [quoinlaw09_graphic.l0]
    rw [if_neg (by omega), restIn_end s i (by omega)]
  | succ d ih =>
    intro k i hi hk
    obtain ⟨k, rfl⟩ : ∃ m, k = m + 1 := ⟨k - 1, by omega⟩
    simp only [quoinlaw09_graphic.l0]
    rw [if_pos (by omega), if_pos (by omega), restIn_step s i (by omega)]
    by_cases h1 : bt s (i : Int) < 33
    · rw [if_pos h1, decide_eq_false (by omega)]
      rfl
    · rw [if_neg h1]
      by_cases h2 : bt s (i : Int) > 126
      · rw [if_pos h2, decide_eq_false (by omega)]
        rfl
      · rw [if_neg h2, decide_eq_true (by omega), Bool.true_and, wrap64_id (by omega) (by omega)]
        exact ih k (i + 1) (by omega) (by omega)
theorem graphic_eq (s : ByteArray) (hs : s.size ≤ 9223372036854775806) (k : Nat) (hk : s.size < k) : quoinlaw09_graphic.f k s = some (allIn s.data.toList) := by
  have := graphic_loop s hs s.size k 0 (by omega) hk
  exact this
/-- A name that begins so goes on beginning so. -/
theorem headIs_more {n p : List UInt8} (m : List UInt8) (h : headIs n p = true) : headIs (n ++ 46 :: m) p = true := by
  unfold headIs at *
  rw [Bool.and_eq_true, Bool.or_eq_true, decide_eq_true_iff, decide_eq_true_iff, decide_eq_true_iff] at *
  have hl : p.length ≤ n.length := by
    have := congrArg List.length h.1
    rw [List.length_take] at this
    omega
  refine ⟨by rw [List.take_append_of_le_length hl]; exact h.1, .inr ?_⟩
  rw [List.getD_eq_getElem?_getD]
  rcases Nat.lt_or_ge p.length n.length with h1 | h1
  · rw [List.getElem?_append_left h1, ← List.getD_eq_getElem?_getD]
    exact h.2.resolve_left (by omega)
  · rw [List.getElem?_append_right h1, show p.length - n.length = 0 by omega]
    rfl
theorem headIs_second {n p : List UInt8} (h : headIs n p = true) (h2 : 2 ≤ p.length) : n.getD 1 0 = p.getD 1 0 := by
  unfold headIs at h
  rw [Bool.and_eq_true, decide_eq_true_iff] at h
  have e : (n.take p.length).getD 1 0 = n.getD 1 0 := by
    rw [List.getD_eq_getElem?_getD, List.getD_eq_getElem?_getD, List.getElem?_take_of_lt (by omega)]
  rw [← e, h.1]
theorem headIs_not {n p q : List UInt8} (h : headIs n p = true) (hp : 2 ≤ p.length) (hq : 2 ≤ q.length) (hd : p.getD 1 0 ≠ q.getD 1 0) : ¬ headIs n q = true :=
  fun h2 => hd (by rw [← headIs_second h hp, headIs_second h2 hq])
theorem kindOf_more {n : List UInt8} (m : List UInt8) (h : kindOf n ≠ 0) : kindOf (n ++ 46 :: m) = kindOf n := by
  unfold kindOf kindNames at *
  simp only [kindFrom] at *
  by_cases h1 : headIs n [46, 116, 101, 120, 116] = true
  · rw [if_pos h1, if_pos (headIs_more m h1)]
  · rw [if_neg h1] at *
    by_cases h2 : headIs n [46, 114, 111, 100, 97, 116, 97] = true
    · have g := headIs_more m h2
      rw [if_pos h2, if_neg (headIs_not g (by decide) (by decide) (by decide)), if_pos g]
    · rw [if_neg h2] at *
      by_cases h3 : headIs n [46, 100, 97, 116, 97] = true
      · have g := headIs_more m h3
        rw [if_pos h3, if_neg (headIs_not g (by decide) (by decide) (by decide)), if_neg (headIs_not g (by decide) (by decide) (by decide)), if_pos g]
      · rw [if_neg h3] at *
        by_cases h4 : headIs n [46, 98, 115, 115] = true
        · have g := headIs_more m h4
          rw [if_pos h4, if_neg (headIs_not g (by decide) (by decide) (by decide)), if_neg (headIs_not g (by decide) (by decide) (by decide)), if_neg (headIs_not g (by decide) (by decide) (by decide)), if_pos g]
        · rw [if_neg h4] at h
          exact absurd rfl h
theorem allIn_more (n m : List UInt8) : allIn (n ++ 46 :: m) = (allIn n && allIn m) := by
  unfold allIn
  rw [List.all_append, List.all_cons]
  simp
theorem kindAns_ok {n : List UInt8} (h : (kindAns n).2 = 0) : n.length ≤ 32 ∧ allIn n = true ∧ kindOf n ≠ 0 := by
  unfold kindAns at h
  split at h
  · assumption
  · simp at h
theorem kindAns_fst {n : List UInt8} (h : (kindAns n).2 = 0) : (kindAns n).1 = kindOf n := by
  have := kindAns_ok h
  rw [kindAns, if_pos this]
theorem kindAns_of {n : List UInt8} (h : n.length ≤ 32 ∧ allIn n = true ∧ kindOf n ≠ 0) : (kindAns n).2 = 0 := by
  rw [kindAns, if_pos h]
theorem longer_list (a b : ByteArray) : (a ++ (⟨#[46]⟩ : ByteArray) ++ b).data.toList = a.data.toList ++ 46 :: b.data.toList := by
  simp [ByteArray.data_append]
theorem kinds_j1 (name : ByteArray) (align : Int) (data : List Int) (size : Int) (hs : name.size ≤ 9223372036854775807) (hd : data.length ≤ 9223372036854775807) (hz : -9223372036854775808 ≤ size ∧ size ≤ 9223372036854775807) (k : Nat) (hk : 20 ≤ k) :
    quoinlaw09_SectKinds.j1 k true false name align data size = some true := by
  obtain ⟨k, rfl⟩ : ∃ m, k = m + 1 := ⟨k - 1, by omega⟩
  simp only [quoinlaw09_SectKinds.j1]
  rw [if_neg (by simp), check_eq _ _ _ _ hs k (by omega), kind_eq _ hs]
  simp only [Option.bind_some]
  unfold sectAns
  by_cases h : (kindAns name.data.toList).2 = 0 ∧ alignOk align = true ∧ sizesOk (kindAns name.data.toList).1 data.length size = true
  · have ha := (alignOk_iff align).1 h.2.1
    have hpos : align > 0 := by omega
    have hne : ¬ align = 0 := by omega
    have hm : ((64 : Int) % align == 0) = true := by
      rcases ha with rfl | rfl | rfl | rfl | rfl | rfl | rfl <;> decide
    rw [if_pos h, if_pos rfl, if_pos trivial, if_pos h.1]
    by_cases h4 : (kindAns name.data.toList).1 = 4
    · have q := h.2.2
      rw [sizesOk_bss h4, decide_eq_true_iff] at q
      rw [wrap64_id (by omega) (by omega), if_pos (by omega), if_pos h4, if_pos (by omega), if_pos hpos, if_neg hne, hm]
    · have q := h.2.2
      rw [sizesOk_not h4, decide_eq_true_iff] at q
      rw [wrap64_id (by omega) (by omega), if_pos (by omega), if_neg h4, if_pos q.1, if_pos hpos, if_neg hne, hm]
      by_cases h0 : (data.length : Int) = 0
      · rw [if_pos h0]
      · rw [if_neg h0]
  · rw [if_neg h, if_neg (by decide)]
theorem kinds_j0 (a b : ByteArray) (x : Bool) (name : ByteArray) (align : Int) (data : List Int) (size : Int) (ha : a.size ≤ 140737488351232) (hb : b.size ≤ 140737488351232)
    (hs : name.size ≤ 9223372036854775807) (hd : data.length ≤ 9223372036854775807) (hz : -9223372036854775808 ≤ size ∧ size ≤ 9223372036854775807) (k : Nat) (hk : b.size + 30 ≤ k) :
    quoinlaw09_SectKinds.j0 k a b true x name align data size = some true := by
  obtain ⟨k, rfl⟩ : ∃ m, k = m + 1 := ⟨k - 1, by omega⟩
  simp only [quoinlaw09_SectKinds.j0]
  cases x
  · have e1 : (a ++ (⟨#[46]⟩ : ByteArray)).size = a.size + 1 := by rw [ByteArray.size_append]; rfl
    have e2 : (a ++ (⟨#[46]⟩ : ByteArray) ++ b).size = a.size + 1 + b.size := by rw [ByteArray.size_append, e1]
    have J := kinds_j1 name align data size hs hd hz k (by omega)
    have k1 := kind_eq a (by omega)
    have k2 := kind_eq (a ++ (⟨#[46]⟩ : ByteArray) ++ b) (by rw [e2]; omega)
    rw [longer_list] at k2
    rw [if_neg (by simp)]
    simp only [k1, k2, Option.bind_some]
    rw [if_pos (show a.size + 1 ≤ 9223372036854775807 by omega), if_pos (show (a ++ (⟨#[46]⟩ : ByteArray)).size + b.size ≤ 9223372036854775807 by rw [e1]; omega)]
    by_cases h : (kindAns a.data.toList).2 = 0
    · rw [if_pos h]
      have hk1 := kindAns_ok h
      have hm := kindOf_more b.data.toList hk1.2.2
      by_cases h2 : (kindAns (a.data.toList ++ 46 :: b.data.toList)).2 = 0
      · rw [if_pos h2, if_pos (by rw [kindAns_fst h, kindAns_fst h2, hm])]
        exact J
      · rw [if_neg h2, e2]
        by_cases h3 : ((a.size + 1 + b.size : Nat) : Int) ≤ 32
        · rw [if_pos h3, graphic_eq b (by omega) k (by omega)]
          simp only [Option.bind_some]
          have : allIn b.data.toList = false := by
            rw [Bool.eq_false_iff]
            intro hg
            refine h2 (kindAns_of ⟨?_, ?_, ?_⟩)
            · rw [List.length_append, List.length_cons, dlen, dlen]; omega
            · rw [allIn_more, hk1.2.1, hg]; rfl
            · rw [hm]; exact hk1.2.2
          rw [this]
          exact J
        · rw [if_neg h3]
          exact J
    · rw [if_neg h]
      exact J
  · rw [if_pos rfl]
theorem SectKinds : quoinlaw09_SectKinds.Pure := by
  intro a b name align data size ha hb hs _ hd hz
  refine ⟨b.size + 100, ?_⟩
  have hs : name.size ≤ 9223372036854775807 := hs
  have hd : data.length ≤ 9223372036854775807 := hd.1
  unfold quoinlaw09_SectKinds.f
  rw [alive9_eq _ (by omega)]
  simp only [Option.bind_some]
  split
  · exact kinds_j0 _ _ _ _ _ _ _ ha hb hs hd (wf64 hz) _ (by omega)
  · exact kinds_j0 _ _ _ _ _ _ _ ha hb hs hd (wf64 hz) _ (by omega)
end Go.Proofs.Ytomabnfeipobnaa.Pure
