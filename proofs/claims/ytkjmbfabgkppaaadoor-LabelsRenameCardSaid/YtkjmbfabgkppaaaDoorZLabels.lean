/- Plain laws of local numbers: what a text asks for, whether items are great, what renaming answers. -/
import Derived.Lib.SlTrimSet
import Derived.Test.YtkjmbfabgkppaaaDoorPx2
import Derived.Test.YtkjmbfabgkppaaaDoorPx3
import Derived.Test.YtkjmbfabgkppaaaDoorPx4
import Derived.Test.YtkjmbfabgkppaaaDoorPx1
namespace Go.Proofs.YtkjmbfabgkppaaaDoor.Z
open Go.RowKit Go.Proofs.YtkjmbfabgkppaaaDoor.P Go.Proofs.YtkjmbfabgkppaaaDoorW.PrintWords Go.Proofs.YtkjmbfabgkppaaaDoorW.PrintLast
set_option linter.unusedSimpArgs false
set_option linter.unusedVariables false

theorem ba_ext {s t : ByteArray} (h : s.toList = t.toList) : s = t := data_inj (by rw [← ByteArray.toList_eq, ← ByteArray.toList_eq, h])
theorem ba_iff {s t : ByteArray} : s.toList = t.toList ↔ s = t := ⟨ba_ext, fun h => by rw [h]⟩
theorem rd_get (l : List S31) (i : Nat) (h : i < l.length) : rd_T31 l (i : Int) = l[i] := by simp [rd_T31, List.getD, List.getElem?_eq_getElem h]
theorem rd_mem (l : List S31) (i : Nat) (h : i < l.length) : rd_T31 l (i : Int) ∈ l := by rw [rd_get l i h]; exact List.getElem_mem h
def digs : List UInt8 := [48, 49, 50, 51, 52, 53, 54, 55, 56, 57]
theorem dig_iff (x : UInt8) : digs.contains x = decide (48 ≤ x.toNat ∧ x.toNat ≤ 57) := by
  have h : ∀ n, n < 256 → digs.contains (UInt8.ofNat n) = decide (48 ≤ n ∧ n ≤ 57) := by decide +kernel
  have e := h x.toNat x.toNat_lt
  rw [UInt8.ofNat_toNat] at e
  exact e
theorem dropWhile_all {α : Type} (p : α → Bool) : ∀ l : List α, (∀ x ∈ l.dropWhile p, p x = true) → ∀ x ∈ l, p x = true
  | [], _ => fun x hx => by cases hx
  | a :: l, h => by
    by_cases ha : p a = true
    · rw [List.dropWhile_cons_of_pos ha] at h
      intro x hx
      rcases List.mem_cons.1 hx with rfl | hx
      · exact ha
      · exact dropWhile_all p l h x hx
    · rw [List.dropWhile_cons_of_neg ha] at h
      exact h
theorem dropWhile_none {α : Type} (p : α → Bool) : ∀ l : List α, (∀ x ∈ l, p x = true) → l.dropWhile p = []
  | [], _ => rfl
  | a :: l, h => by
    rw [List.dropWhile_cons_of_pos (h a (List.mem_cons_self ..))]
    exact dropWhile_none p l fun x hx => h x (List.mem_cons_of_mem _ hx)
theorem trim_nil (l cs : List UInt8) : Lib.trimS l cs = [] ↔ ∀ x ∈ l, cs.contains x = true := by
  unfold Lib.trimS Lib.trimLeftS Lib.trimRightS
  constructor
  · intro h
    have h1 := dropWhile_all (cs.contains ·) _ (by rw [h]; intro x hx; cases hx)
    have h2 := dropWhile_all (cs.contains ·) l.reverse fun x hx => h1 x (List.mem_reverse.2 hx)
    exact fun x hx => h2 x (List.mem_reverse.2 hx)
  · intro h
    rw [dropWhile_none (cs.contains ·) l.reverse fun x hx => h x (List.mem_reverse.1 hx)]
    rfl
theorem localB_eq (s : ByteArray) : localB s = decide (1 ≤ s.size ∧ s.size ≤ 9 ∧ s.data.toList.all digs.contains = true) := by
  have h := local_eq s
  unfold labels_local.f strings_Trim.f at h
  have hz : s.toList = [] ↔ s.size = 0 := by
    rw [ByteArray.toList_eq]
    show _ ↔ s.data.size = 0
    rw [← Array.length_toList]
    exact List.length_eq_zero_iff.symm
  by_cases h0 : s.size = 0
  · rw [if_pos (hz.2 h0)] at h
    rw [← Option.some.inj h]
    simp [h0]
  · rw [if_neg (fun e => h0 (hz.1 e))] at h
    by_cases h9 : (s.size : Int) ≤ 9
    · rw [if_pos h9, if_pos ⟨by omega, rfl⟩] at h
      simp only [Option.bind_some] at h
      rw [← Option.some.inj h]
      have : (⟨(Lib.trimS s.data.toList [48, 49, 50, 51, 52, 53, 54, 55, 56, 57]).toArray⟩ : ByteArray).toList = Lib.trimS s.data.toList digs := by rw [ByteArray.toList_eq]; rfl
      rw [this]
      rw [Bool.eq_iff_iff]
      rw [beq_iff_eq, trim_nil, decide_eq_true_iff, List.all_eq_true]
      exact ⟨fun e => ⟨by omega, by omega, e⟩, fun e => e.2.2⟩
    · rw [if_neg h9] at h
      rw [← Option.some.inj h]
      exact (decide_eq_false (fun e => h9 (by omega))).symm
theorem bt_nat (s : ByteArray) (i : Nat) (h : i < s.size) : ∃ x : UInt8, bt s (i : Int) = (x.toNat : Int) ∧ s.data.toList.drop i = x :: s.data.toList.drop (i + 1) := by
  have hl : i < s.data.toList.length := by rw [Array.length_toList]; exact h
  refine ⟨s.data.toList[i], ?_, List.drop_eq_getElem_cons hl⟩
  unfold bt
  rw [dif_pos (by simpa using h)]
  simp only [Int.toNat_natCast, Array.getElem_toList]
  rfl
theorem localr_l (s : ByteArray) (hs : s.size ≤ maxLen) : ∀ d i k, s.size - i = d → d < k → i ≤ s.size →
    quoinref21_Local.l0 k s (i : Int) = some (decide (1 ≤ s.size ∧ s.size ≤ 9 ∧ (s.data.toList.drop i).all digs.contains = true)) := by
  intro d
  unfold maxLen at hs
  induction d with
  | zero =>
    intro i k h1 h2 h3
    obtain ⟨k, rfl⟩ : ∃ m, k = m + 1 := ⟨k - 1, by omega⟩
    simp only [quoinref21_Local.l0]
    rw [if_neg (by omega), List.drop_eq_nil_of_le (by rw [Array.length_toList]; show s.size ≤ i; omega)]
    by_cases h : (s.size : Int) ≥ 1
    · rw [if_pos h]
      congr 1
      rw [decide_eq_decide]
      simp
      omega
    · rw [if_neg h]
      congr 1
      rw [eq_comm, decide_eq_false_iff_not]
      omega
  | succ d ih =>
    intro i k h1 h2 h3
    obtain ⟨k, rfl⟩ : ∃ m, k = m + 1 := ⟨k - 1, by omega⟩
    simp only [quoinref21_Local.l0]
    obtain ⟨x, hx, hd⟩ := bt_nat s i (by omega)
    have hw : wrap64 ((i : Int) + 1) = ((i + 1 : Nat) : Int) := by unfold wrap64; omega
    rw [if_pos (by omega), if_pos (by omega), hw, ih (i + 1) k (by omega) (by omega) (by omega), hd, hx, List.all_cons, dig_iff]
    by_cases c1 : (x.toNat : Int) < 48
    · rw [if_pos c1, show decide (48 ≤ x.toNat ∧ x.toNat ≤ 57) = false from decide_eq_false (by omega)]
      simp
    · rw [if_neg c1]
      by_cases c2 : (x.toNat : Int) > 57
      · rw [if_pos c2, show decide (48 ≤ x.toNat ∧ x.toNat ≤ 57) = false from decide_eq_false (by omega)]
        simp
      · rw [if_neg c2, show decide (48 ≤ x.toNat ∧ x.toNat ≤ 57) = true from decide_eq_true (by omega)]
        simp
theorem localr_eq (s : ByteArray) (hs : s.size ≤ maxLen) (k : Nat) (hk : s.size < k) : quoinref21_Local.f k s = some (localB s) := by
  unfold quoinref21_Local.f
  have := localr_l s hs s.size 0 k (by omega) hk (by omega)
  rw [localB_eq]
  simpa using this
theorem cutB_eq (s : ByteArray) (c : UInt8) (hs : s.size ≤ 1000000000000) : cutB s c = if 1 ≤ s.size ∧ bt s ((s.size : Int) - 1) = (c.toNat : Int) then (s.extract 0 (s.size - 1), true) else (s, false) := by
  have h := cut_eq s c hs
  unfold strings_CutSuffix.f stringslite_CutSuffix.f stringslite_HasSuffix.f at h
  have h1 : ((⟨#[c]⟩ : ByteArray).size : Int) = 1 := rfl
  rw [h1] at h
  by_cases h0 : (s.size : Int) ≥ 1
  · have hw : wrap64 ((s.size : Int) - 1) = ((s.size - 1 : Nat) : Int) := by unfold wrap64; omega
    obtain ⟨x, hx, hd⟩ := bt_nat s (s.size - 1) (by omega)
    rw [if_pos h0, hw, if_pos (by omega), if_pos (by omega)] at h
    simp only [Option.bind_some, Int.toNat_natCast] at h
    have e1 : ((s.extract (s.size - 1) s.size).toList == (⟨#[c]⟩ : ByteArray).toList) = decide (x = c) := by
      rw [ByteArray.toList_eq, ByteArray.toList_eq, ByteArray.data_extract, Array.toList_extract, List.extract_eq_take_drop, hd, List.drop_eq_nil_of_le (by rw [Array.length_toList]; show s.size ≤ _; omega), List.take_of_length_le (by simp; omega), Bool.eq_iff_iff, beq_iff_eq, decide_eq_true_iff]
      simp
    rw [e1] at h
    have e2 : bt s ((s.size : Int) - 1) = (x.toNat : Int) := by rw [← hx]; congr 1; omega
    rw [e2]
    by_cases hc : x = c
    · rw [if_pos (by simpa using hc), if_pos (by omega), if_pos (by omega)] at h
      simp only [Option.bind_some] at h
      rw [← Option.some.inj h, if_pos ⟨by omega, by rw [hc]⟩]
    · rw [if_neg (by simpa using hc)] at h
      simp only [Option.bind_some] at h
      rw [← Option.some.inj h, if_neg (fun e => hc (UInt8.toNat_inj.1 (by omega)))]
  · rw [if_neg h0] at h
    simp only [Option.bind_some] at h
    rw [if_neg (by simp)] at h
    simp only [Option.bind_some] at h
    rw [← Option.some.inj h, if_neg (by omega)]
/-- What a text asks for. -/
def askB (s : ByteArray) : ByteArray × Bool × Bool := if (cut2 s).2 = true ∧ localB (cut2 s).1 = true then ((cut2 s).1, (cutB s 98).2, true) else (⟨#[]⟩, false, false)
theorem local_empty (s : ByteArray) (h : s.size = 0) : localB s = false := by
  rw [localB_eq]
  exact decide_eq_false (by omega)
theorem asks_eq (s : ByteArray) (hs : s.size ≤ 1000000000000) (k : Nat) (hk : s.size < k) : quoinref21_Asks.f k s = some (askB s) := by
  unfold quoinref21_Asks.f askB cut2
  rw [cutB_eq s 98 hs, cutB_eq s 102 hs]
  have hx0 : (98 : UInt8).toNat = 98 := rfl
  have hx1 : (102 : UInt8).toNat = 102 := rfl
  rw [hx0, hx1]
  have hw : wrap64 ((s.size : Int) - 1) = (s.size : Int) - 1 := by unfold wrap64; omega
  rw [hw]
  have hn : ((s.size : Int) - 1).toNat = s.size - 1 := by omega
  rw [hn]
  have hsz : (s.extract 0 (s.size - 1)).size = s.size - 1 := by rw [ByteArray.size_extract]; omega
  by_cases h1 : (s.size : Int) - 1 < 1
  · rw [if_pos h1]
    congr 1
    rw [if_neg]
    intro ⟨e1, e2⟩
    by_cases c1 : 1 ≤ s.size ∧ bt s ((s.size : Int) - 1) = ((98 : Nat) : Int)
    · rw [if_pos c1] at e2
      simp only [if_true] at e2
      rw [local_empty _ (by omega)] at e2
      cases e2
    · rw [if_neg c1] at e1 e2
      simp only [Bool.false_eq_true, if_false] at e1 e2
      by_cases c2 : 1 ≤ s.size ∧ bt s ((s.size : Int) - 1) = ((102 : Nat) : Int)
      · rw [if_pos c2] at e2
        simp only at e2
        rw [local_empty _ (by omega)] at e2
        cases e2
      · rw [if_neg c2] at e1
        cases e1
  · rw [if_neg h1, if_pos (by omega), if_pos (by omega), localr_eq _ (by rw [hsz]; unfold maxLen; omega) k (by omega)]
    simp only [Option.bind_some]
    have hle : (s.size : Int) - 1 ≤ (s.size : Int) := by omega
    simp only [if_pos hle]
    by_cases c2 : bt s ((s.size : Int) - 1) = 102
    · have e1 : ¬ (1 ≤ s.size ∧ bt s ((s.size : Int) - 1) = ((98 : Nat) : Int)) := by omega
      have e2 : 1 ≤ s.size ∧ bt s ((s.size : Int) - 1) = ((102 : Nat) : Int) := by omega
      simp only [if_neg e1, if_pos e2, if_pos c2, Bool.false_eq_true, if_false, true_and]
      rw [c2]
      split <;> rfl
    · by_cases c1 : bt s ((s.size : Int) - 1) = 98
      · have e1 : 1 ≤ s.size ∧ bt s ((s.size : Int) - 1) = ((98 : Nat) : Int) := by omega
        simp only [if_neg c2, if_pos c1, if_pos e1, if_true, true_and]
        rw [c1]
        split <;> rfl
      · have e1 : ¬ (1 ≤ s.size ∧ bt s ((s.size : Int) - 1) = ((98 : Nat) : Int)) := by omega
        have e2 : ¬ (1 ≤ s.size ∧ bt s ((s.size : Int) - 1) = ((102 : Nat) : Int)) := by omega
        simp only [if_neg c2, if_neg c1, if_neg e1, if_neg e2, Bool.false_eq_true, if_false, false_and]
/-! Great items. -/
def gone (x : S31) : Int := mn (x.f1.length : Int) 100000 + mn (x.f3.size : Int) 100000 + mn (x.f4.size : Int) 100000
def gsum : List S31 → Int
  | [] => 0
  | x :: l => gone x + gsum l
theorem mn_bound (a : Int) (h : 0 ≤ a) : 0 ≤ mn a 100000 ∧ mn a 100000 ≤ 100000 ∧ (mn a 100000 < 100000 → mn a 100000 = a) := by
  unfold mn
  split <;> omega
theorem gone_bound (x : S31) : 0 ≤ gone x ∧ gone x ≤ 300000 := by
  unfold gone
  have a := mn_bound x.f1.length (by omega)
  have b := mn_bound x.f3.size (by omega)
  have c := mn_bound x.f4.size (by omega)
  omega
theorem gsum_nonneg : ∀ l : List S31, 0 ≤ gsum l
  | [] => Int.le_refl _
  | x :: l => by have := gone_bound x; have := gsum_nonneg l; simp only [gsum]; omega
theorem gsum_mem : ∀ (l : List S31) (x : S31), x ∈ l → gone x ≤ gsum l
  | [], x, h => by cases h
  | y :: l, x, h => by
    have h1 := gsum_nonneg l
    have h2 := gone_bound y
    simp only [gsum]
    rcases List.mem_cons.1 h with rfl | h
    · omega
    · have := gsum_mem l x h; omega
def greatEnd (l : List S31) (n : Int) : Bool := decide (l.length > 300 ∧ l.length ≤ 1024 ∨ l.length > 1100 ∨ n > 80000)
theorem great_end (l : List S31) (n : Int) : (if (l.length : Int) > 300 then (if (l.length : Int) ≤ 1024 then (some true) else (if (l.length : Int) > 1100 then (some true) else (some (decide (n > 80000))))) else (if (l.length : Int) > 1100 then (some true) else (some (decide (n > 80000))))) = some (greatEnd l n) := by
  unfold greatEnd
  repeat' split
  all_goals (congr 1; first | (rw [eq_comm, decide_eq_true_iff]; omega) | (rw [decide_eq_decide]; omega))
theorem great_l (l : List S31) : ∀ d i k (n : Int), min l.length 2000 - i = d → d < k → i ≤ l.length → i ≤ 2000 → 0 ≤ n → n ≤ 300000 * i →
    ∃ m, quoinref20_Great.l0 k l n (i : Int) = some (greatEnd l m) ∧ (l.length ≤ 2000 → m = n + gsum (l.drop i)) := by
  intro d
  induction d with
  | zero =>
    intro i k n h1 h2 h3 h4 h5 h6
    obtain ⟨k, rfl⟩ : ∃ m, k = m + 1 := ⟨k - 1, by omega⟩
    refine ⟨n, ?_, fun h => ?_⟩
    · simp only [quoinref20_Great.l0]
      rw [great_end]
      by_cases c1 : (i : Int) < (l.length : Int)
      · rw [if_pos c1, if_neg (by omega)]
      · rw [if_neg c1]
    · rw [List.drop_eq_nil_of_le (by omega)]
      simp [gsum]
  | succ d ih =>
    intro i k n h1 h2 h3 h4 h5 h6
    obtain ⟨k, rfl⟩ : ∃ m, k = m + 1 := ⟨k - 1, by omega⟩
    have hi : i < l.length := by omega
    have hg := gone_bound (rd_T31 l (i : Int))
    have hw : wrap64 ((i : Int) + 1) = ((i + 1 : Nat) : Int) := by unfold wrap64; omega
    have ha : wrap64 ((wrap64 ((wrap64 (n + (mn (((rd_T31 l (i : Int)).f1).length : Int) 100000))) + (mn (((rd_T31 l (i : Int)).f3).size : Int) 100000))) + (mn (((rd_T31 l (i : Int)).f4).size : Int) 100000)) = n + gone (rd_T31 l (i : Int)) := by
      have a := mn_bound (rd_T31 l (i : Int)).f1.length (by omega)
      have b := mn_bound (rd_T31 l (i : Int)).f3.size (by omega)
      have c := mn_bound (rd_T31 l (i : Int)).f4.size (by omega)
      unfold gone wrap64
      omega
    obtain ⟨m, hm, hs⟩ := ih (i + 1) k (n + gone (rd_T31 l (i : Int))) (by omega) (by omega) (by omega) (by omega) (by omega) (by omega)
    refine ⟨m, ?_, fun h => ?_⟩
    · simp only [quoinref20_Great.l0]
      rw [if_pos (by omega), if_pos (by omega), if_pos (by omega), ha, hw]
      exact hm
    · rw [hs h, List.drop_eq_getElem_cons hi, rd_get l i hi]
      simp only [gsum]
      omega
/-- Items that are not great are small. -/
def Small (l : List S31) : Prop := (l.length ≤ 300 ∨ 1024 < l.length ∧ l.length ≤ 1100) ∧ ∀ x ∈ l, x.f1.length ≤ 80000 ∧ x.f3.size ≤ 80000 ∧ x.f4.size ≤ 80000
theorem great_cases (l : List S31) : ∃ b, (∀ k, 2000 < k → quoinref20_Great.f k l = some b) ∧ (b = false → Small l) := by
  have h0 := fun k (hk : 2000 < k) => great_l l (min l.length 2000) 0 k 0 (by omega) (by omega) (by omega) (by omega) (by omega) (by omega)
  by_cases hl : l.length ≤ 2000
  · refine ⟨greatEnd l (gsum l), fun k hk => ?_, fun hb => ?_⟩
    · obtain ⟨m, hm, hs⟩ := h0 k hk
      have e : m = gsum l := by rw [hs hl, List.drop_zero]; omega
      rw [← e]
      exact hm
    · unfold greatEnd at hb
      rw [decide_eq_false_iff_not] at hb
      refine ⟨by omega, fun x hx => ?_⟩
      have h1 := gsum_mem l x hx
      unfold gone at h1
      have a := mn_bound x.f1.length (by omega)
      have b := mn_bound x.f3.size (by omega)
      have c := mn_bound x.f4.size (by omega)
      omega
  · refine ⟨true, fun k hk => ?_, fun hb => by cases hb⟩
    obtain ⟨m, hm, _⟩ := h0 k hk
    unfold quoinref20_Great.f
    refine hm.trans ?_
    congr 1
    unfold greatEnd
    rw [decide_eq_true_iff]
    omega
theorem ok_small {l : List S31} (h : ∀ x ∈ l, x.f1.length ≤ 80000 ∧ x.f3.size ≤ 80000 ∧ x.f4.size ≤ 80000) : l.all okItem = true := by
  rw [List.all_eq_true]
  intro x hx
  have := h x hx
  unfold okItem
  rw [decide_eq_true_iff]
  omega
theorem rename_small {l : List S31} (h : Small l) : labels_Rename.f l = some (renameF l) := by
  unfold labels_Rename.f
  rw [if_pos (ok_small h.2)]
/-! What renaming answers. -/
theorem renameFrom_cases (l : List S31) : ∀ d i out, out.length = i → i + d = l.length →
    (∃ out', renameFrom l d i out = (out', 0, 0) ∧ out'.length = l.length ∧ (∀ j, j < i → rd_T31 out' (j : Int) = rd_T31 out (j : Int)) ∧ ∀ j, i ≤ j → j < l.length → oneB l j = some (rd_T31 out' (j : Int))) ∨
    ∃ j, i ≤ j ∧ j < l.length ∧ oneB l j = none ∧ renameFrom l d i out = ([], (j : Int), 210) := by
  intro d
  induction d with
  | zero =>
    intro i out h1 h2
    exact .inl ⟨out, rfl, by omega, fun j hj => rfl, fun j h3 h4 => by omega⟩
  | succ d ih =>
    intro i out h1 h2
    simp only [renameFrom]
    cases ho : oneB l i with
    | none => exact .inr ⟨i, Nat.le_refl _, by omega, ho, rfl⟩
    | some y =>
      have hr : rd_T31 (out ++ [y]) (i : Int) = y := by
        rw [rd_get _ i (by simp; omega), List.getElem_append_right (by omega)]
        simp
      rcases ih (i + 1) (out ++ [y]) (by simp; omega) (by omega) with ⟨o', e1, e2, e3, e4⟩ | ⟨j, e1, e2, e3, e4⟩
      · refine .inl ⟨o', e1, e2, fun j hj => ?_, fun j h3 h4 => ?_⟩
        · rw [e3 j (by omega), rd_get _ j (by simp; omega), rd_get _ j (by omega), List.getElem_append_left (by omega)]
        · rcases Nat.eq_or_lt_of_le h3 with rfl | h3
          · rw [e3 i (by omega), hr]
            exact ho
          · exact e4 j h3 h4
      · exact .inr ⟨j, by omega, e2, e3, e4⟩
theorem renameF_cases (l : List S31) : (1024 < l.length ∧ renameF l = ([], 0, 4)) ∨
    (∃ a, renameF l = (a, 0, 0) ∧ a.length = l.length ∧ l.length ≤ 1024 ∧ ∀ j, j < l.length → oneB l j = some (rd_T31 a (j : Int))) ∨
    ∃ j, j < l.length ∧ l.length ≤ 1024 ∧ oneB l j = none ∧ renameF l = ([], (j : Int), 210) := by
  unfold renameF
  by_cases h : l.length > 1024
  · rw [if_pos h]
    exact .inl ⟨h, rfl⟩
  · rw [if_neg h]
    rcases renameFrom_cases l l.length 0 [] rfl (by omega) with ⟨a, e1, e2, _, e3⟩ | ⟨j, _, e2, e3, e4⟩
    · exact .inr (.inl ⟨a, e1, e2, by omega, fun j hj => e3 j (by omega) hj⟩)
    · exact .inr (.inr ⟨j, e2, by omega, e3, e4⟩)
theorem tellsB_eq (x : S31) : tellsB x = if x.f0 = 6 ∧ localB x.f3 = true then x.f3 else ⟨#[]⟩ := by
  have h := tells_eq x
  unfold labels_tells.f at h
  rw [local_eq] at h
  simp only [Option.bind_some] at h
  by_cases c : x.f0 = 6
  · rw [if_pos c] at h
    by_cases d : localB x.f3 = true
    · rw [if_pos d] at h
      rw [← Option.some.inj h, if_pos ⟨c, d⟩]
    · rw [if_neg d] at h
      rw [← Option.some.inj h, if_neg (fun e => d e.2)]
  · rw [if_neg c] at h
    rw [← Option.some.inj h, if_neg (fun e => c e.1)]
theorem tells_iff {x : S31} {s : ByteArray} (hs : localB s = true) : s = tellsB x ↔ x.f0 = 6 ∧ x.f3 = s := by
  rw [tellsB_eq]
  constructor
  · intro h
    split at h
    · rename_i c
      exact ⟨c.1, h.symm⟩
    · exact absurd rfl (by have := (local_nonempty hs).1; rw [h] at this; exact this)
  · rintro ⟨h, rfl⟩
    rw [if_pos ⟨h, hs⟩]
theorem tells_none {x : S31} (h : x.f0 ≠ 6) : (tellsB x).size = 0 := by
  rw [tellsB_eq, if_neg (fun e => h e.1)]
  rfl
theorem cnt_le (l : List S31) (i : Nat) (s : ByteArray) : 0 ≤ cnt l i s ∧ cnt l i s ≤ i := by
  unfold cnt
  have h1 := List.length_filter_le (fun x => decide (tellsB x = s)) (l.take i)
  have h2 := List.length_take_le i l
  omega
end Go.Proofs.YtkjmbfabgkppaaaDoor.Z
