/- LabelsRename: renaming, and naming, are as the document says. -/
import Derived.Test.YtkjmbfabgkppaaaDoorZLabelsTwice
import Derived.Test.YtkjmbfabgkppaaaDoorPx6
import Derived.Test.YtkjmbfabgkppaaaDoorPx1
import Derived.Test.YtkjmbfabgkppaaaDoorPx5
import Derived.Test.YtkjmbfabgkppaaaDoorPx4
import Derived.Test.YtkjmbfabgkppaaaDoorPx3
namespace Go.Proofs.YtkjmbfabgkppaaaDoor.Pure
open Go.RowKit Go.Proofs.YtkjmbfabgkppaaaDoor.P Go.Proofs.YtkjmbfabgkppaaaDoor.Z Go.Proofs.YtkjmbfabgkppaaaDoorW.PrintWords Go.Proofs.YtkjmbfabgkppaaaDoorW.PrintLast
set_option linter.unusedSimpArgs false
set_option linter.unusedVariables false

theorem rn_wrap (i : Nat) (h : i ≤ 2000) : wrap64 ((i : Int) + 1) = ((i + 1 : Nat) : Int) := by unfold wrap64; omega
theorem rn_same (a : List S31) (hl : a.length ≤ 2000) : ∀ d i k, a.length - i = d → d < k → i ≤ a.length → quoinref21_Same.l0 k a a (i : Int) = some true := by
  intro d
  induction d with
  | zero =>
    intro i k h1 h2 h3
    obtain ⟨k, rfl⟩ : ∃ m, k = m + 1 := ⟨k - 1, by omega⟩
    simp only [quoinref21_Same.l0, if_true]
    rw [if_neg (by omega)]
  | succ d ih =>
    intro i k h1 h2 h3
    obtain ⟨k, rfl⟩ : ∃ m, k = m + 1 := ⟨k - 1, by omega⟩
    simp only [quoinref21_Same.l0, if_true]
    rw [if_pos (by omega), if_pos (by omega), if_pos (by omega), rn_wrap i (by omega)]
    exact ih (i + 1) k (by omega) (by omega) (by omega)
theorem rn_twin (l : List S31) (hl : l.length ≤ 2000) (hw : ∀ x ∈ l, x.f1.length ≤ 80000) : ∀ d i k, l.length - i = d → d < k → i ≤ l.length → quoinref21_Twin.l0 k l (l.take i) (i : Int) = some l := by
  intro d
  induction d with
  | zero =>
    intro i k h1 h2 h3
    obtain ⟨k, rfl⟩ : ∃ m, k = m + 1 := ⟨k - 1, by omega⟩
    simp only [quoinref21_Twin.l0]
    rw [if_neg (by omega), List.take_of_length_le (by omega)]
  | succ d ih =>
    intro i k h1 h2 h3
    obtain ⟨k, rfl⟩ : ∃ m, k = m + 1 := ⟨k - 1, by omega⟩
    simp only [quoinref21_Twin.l0]
    have hlt : ([] : List Int).length + ((rd_T31 l (i : Int)).f1).length < 140737488355328 := by
      have := hw _ (rd_mem l i (by omega))
      simp only [List.length_nil]
      omega
    have hl2 : (l.take i).length < 1599289640401 := by rw [List.length_take]; omega
    rw [if_pos (by omega), if_pos (by omega), if_pos hlt, if_pos hl2, rn_wrap i (by omega)]
    have ht : l.take i ++ [(⟨(rd_T31 l (i : Int)).f0, ([] : List Int) ++ (rd_T31 l (i : Int)).f1, (rd_T31 l (i : Int)).f2, (rd_T31 l (i : Int)).f3, (rd_T31 l (i : Int)).f4, (rd_T31 l (i : Int)).f5, (rd_T31 l (i : Int)).f6⟩ : S31)] = l.take (i + 1) := by
      rw [List.take_add_one, List.getElem?_eq_getElem (by omega), ← rd_get l i (by omega)]
      rfl
    rw [ht]
    exact ih (i + 1) k (by omega) (by omega) (by omega)
theorem rn_digit (n : Nat) (h : n < 10) : ((⟨#[48, 49, 50, 51, 52, 53, 54, 55, 56, 57]⟩ : ByteArray).extract n (n + 1)).data.toList = [UInt8.ofNat (48 + n)] := by
  rcases n with _ | _ | _ | _ | _ | _ | _ | _ | _ | _ | n
  · rfl
  · rfl
  · rfl
  · rfl
  · rfl
  · rfl
  · rfl
  · rfl
  · rfl
  · rfl
  · omega
theorem rn_tens : ∀ (n k : Nat), n < k → n ≤ 100000 → ∃ t, quoinref21_tens.f k (n : Int) = some t ∧ t.data.toList = Lib.decDigits n ∧ t.size ≤ n + 1 := by
  intro n
  induction n using Nat.strongRecOn with
  | _ n ih =>
    intro k hk hn
    obtain ⟨k, rfl⟩ : ∃ m, k = m + 1 := ⟨k - 1, by omega⟩
    simp only [quoinref21_tens.f]
    rw [dec_eq]
    by_cases c : n < 10
    · have hw : wrap64 ((n : Int) + 1) = ((n + 1 : Nat) : Int) := by unfold wrap64; omega
      rw [if_pos (by omega), if_pos (by omega), hw, if_pos (by omega), if_pos (by omega), if_pos c]
      refine ⟨_, rfl, ?_, ?_⟩
      · rw [Int.toNat_natCast, Int.toNat_natCast]
        exact rn_digit n c
      · rw [ByteArray.size_extract, Int.toNat_natCast, Int.toNat_natCast]
        omega
    · have e1 : Int.tdiv (n : Int) 10 = ((n / 10 : Nat) : Int) := rfl
      have e2 : Int.tmod (n : Int) 10 = ((n % 10 : Nat) : Int) := rfl
      have hw : wrap64 ((n / 10 : Nat) : Int) = ((n / 10 : Nat) : Int) := by unfold wrap64; omega
      rw [if_neg (by omega), if_neg c, e1, e2, hw]
      obtain ⟨t, h1, h2, h3⟩ := ih (n / 10) (by omega) k (by omega) (by omega)
      obtain ⟨u, h4, h5, h6⟩ := ih (n % 10) (by omega) k (by omega) (by omega)
      rw [h1, h4]
      simp only [Option.bind_some]
      rw [if_pos (by omega)]
      refine ⟨_, rfl, ?_, ?_⟩
      · rw [ByteArray.data_append, Array.toList_append, h2, h5]
        congr 1
        rw [dec_eq, if_pos (by omega)]
      · rw [ByteArray.size_append]
        omega
theorem rn_name (s : ByteArray) (n : Int) (k : Nat) (hs : s.size ≤ 100000) (hk : 100000 < k) : quoinref21_Name.f k s n = labels_Name.f s n := by
  unfold quoinref21_Name.f labels_Name.f
  rw [localr_eq s (by unfold maxLen; omega) k (by omega), local_eq]
  simp only [Option.bind_some]
  cases localB s with
  | false => rfl
  | true =>
    rw [if_pos rfl, if_pos rfl]
    by_cases h0 : n < 0
    · rw [if_pos h0, if_pos h0]
    · rw [if_neg h0, if_neg h0]
      by_cases h1 : n > 1024
      · rw [if_pos h1, if_pos h1]
      · rw [if_neg h1, if_neg h1, if_pos (by omega)]
        obtain ⟨m, rfl⟩ : ∃ m : Nat, n = (m : Int) := ⟨n.toNat, by omega⟩
        obtain ⟨t, e1, e2, e3⟩ := rn_tens m k (by omega) (by omega)
        have hz : (s ++ (⟨#[64]⟩ : ByteArray)).size + t.size ≤ 9223372036854775807 := by
          rw [ByteArray.size_append, show (⟨#[64]⟩ : ByteArray).size = 1 from rfl]
          omega
        have e4 : labels_name.f s (m : Int) = some (nameB s (m : Int)) := by
          unfold labels_name.f
          rw [if_pos ⟨by omega, by omega, by omega⟩]
        rw [e1, e4]
        simp only [Option.bind_some]
        rw [if_pos hz]
        have : (s ++ (⟨#[64]⟩ : ByteArray)) ++ t = nameB s (m : Int) := by
          refine data_inj ?_
          rw [name_list, ByteArray.data_append, ByteArray.data_append, Array.toList_append, Array.toList_append, e2]
          simp
        rw [this]
theorem rn_named (s : ByteArray) (n : Nat) (k : Nat) (hs : localB s = true) (hn : n ≤ 1024) (hk : 100000 < k) : quoinref21_Name.f k s (n : Int) = some (nameB s (n : Int), 0) := by
  have := (local_nonempty hs).2
  rw [rn_name s n k (by omega) hk]
  unfold labels_Name.f
  rw [local_eq, hs]
  simp only [Option.bind_some, if_true]
  have e4 : labels_name.f s (n : Int) = some (nameB s (n : Int)) := by
    unfold labels_name.f
    rw [if_pos ⟨by omega, by omega, by omega⟩]
  rw [if_neg (by omega), if_neg (by omega), e4]
  rfl
theorem rn_tells (x : S31) (s : ByteArray) (hs : localB s = true) : quoinref21_tells.f x.f0 x.f1 x.f2 x.f3 x.f4 x.f5 x.f6 s = some (decide (s = tellsB x)) := by
  unfold quoinref21_tells.f
  by_cases h : x.f0 = 6
  · rw [if_pos h]
    congr 1
    by_cases e : x.f3 = s
    · rw [decide_eq_true ((tells_iff hs).2 ⟨h, e⟩), e]
      exact beq_iff_eq.2 rfl
    · rw [decide_eq_false (fun q => e ((tells_iff hs).1 q).2)]
      exact beq_eq_false_iff_ne.2 (fun q => e (ba_ext q))
  · rw [if_neg h, decide_eq_false (fun q => h ((tells_iff hs).1 q).1)]
theorem rn_ahead_l (l : List S31) (at_ : Nat) (s : ByteArray) (hs : localB s = true) (hl : l.length ≤ 1024) (hat : at_ ≤ l.length) : ∀ d i k, at_ - i = d → d < k → i ≤ at_ → quoinref21_ahead.l0 k l (at_ : Int) s (cnt l i s) (i : Int) = some (cnt l at_ s) := by
  intro d
  induction d with
  | zero =>
    intro i k h1 h2 h3
    obtain ⟨k, rfl⟩ : ∃ m, k = m + 1 := ⟨k - 1, by omega⟩
    simp only [quoinref21_ahead.l0]
    rw [if_neg (by omega), show i = at_ by omega]
  | succ d ih =>
    intro i k h1 h2 h3
    obtain ⟨k, rfl⟩ : ∃ m, k = m + 1 := ⟨k - 1, by omega⟩
    have hi : i < l.length := by omega
    simp only [quoinref21_ahead.l0]
    rw [if_pos (by omega), if_pos (by omega), if_pos (by omega), rn_tells _ _ hs]
    simp only [Option.bind_some, decide_eq_true_eq]
    have hc := cnt_succ l i hi s
    have hb := cnt_le l i s
    have hw : wrap64 (cnt l i s + 1) = cnt l i s + 1 := by unfold wrap64; omega
    rw [hw, rn_wrap i (by omega)]
    have := ih (i + 1) k (by omega) (by omega) (by omega)
    by_cases c : s = tellsB (rd_T31 l (i : Int))
    · rw [if_pos c] at hc ⊢
      rw [← hc]
      exact this
    · rw [if_neg c] at hc ⊢
      rw [← hc]
      exact this
theorem rn_ahead (l : List S31) (at_ : Nat) (s : ByteArray) (hs : localB s = true) (hl : l.length ≤ 1024) (hat : at_ ≤ l.length) (k : Nat) (hk : 1024 < k) : quoinref21_ahead.f k l (at_ : Int) s = some (cnt l at_ s) := by
  unfold quoinref21_ahead.f
  have := rn_ahead_l l at_ s hs hl hat at_ 0 k rfl (by omega) (by omega)
  have h0 : cnt l 0 s = 0 := by simp [cnt]
  rw [h0] at this
  exact this
def turned (o : Option ByteArray) : ByteArray × Bool := match o with | some t => (t, true) | none => (⟨#[]⟩, false)
theorem rn_j0 (l : List S31) (at_ : Nat) (s : ByteArray) (n : Int) (hs : localB s = true) (hl : l.length ≤ 1024) (h1 : n ≤ 1024) (k : Nat) (hk : 100010 < k) :
    quoinref21_field.j0 k l s n = some (turned (if n < 0 ∨ cnt l l.length s ≤ n then none else some (nameB s n))) := by
  obtain ⟨k, rfl⟩ : ∃ m, k = m + 1 := ⟨k - 1, by omega⟩
  simp only [quoinref21_field.j0]
  by_cases c : n < 0
  · rw [if_pos c, if_pos (.inl c)]
    rfl
  · rw [if_neg c, rn_ahead l l.length s hs hl (Nat.le_refl _) k (by omega)]
    simp only [Option.bind_some]
    by_cases d : n ≥ cnt l l.length s
    · rw [if_pos d, if_pos (.inr d)]
      rfl
    · obtain ⟨m, rfl⟩ : ∃ m : Nat, n = (m : Int) := ⟨n.toNat, by omega⟩
      rw [if_neg d, if_neg (by omega), rn_named s m k hs (by omega) (by omega)]
      rfl
theorem rn_field (l : List S31) (at_ : Nat) (s : ByteArray) (hl : l.length ≤ 1024) (hat : at_ < l.length) (hs : s.size ≤ 80000) (k : Nat) (hk : 100010 < k) : quoinref21_field.f k l (at_ : Int) s = some (turned (turnB l at_ s)) := by
  unfold quoinref21_field.f turnB
  rw [asks_eq s (by omega) k (by omega)]
  unfold askB
  by_cases c : (cut2 s).2 = true ∧ localB (cut2 s).1 = true
  · rw [if_pos c, if_pos c]
    simp only [Option.bind_some, if_true]
    rw [rn_ahead l at_ _ c.2 hl (by omega) k (by omega)]
    simp only [Option.bind_some]
    have hb := cnt_le l at_ (cut2 s).1
    by_cases d : (cutB s 98).2 = true
    · have hw : wrap64 (cnt l at_ (cut2 s).1 - 1) = cnt l at_ (cut2 s).1 - 1 := by unfold wrap64; omega
      rw [if_pos d, if_pos d, hw, rn_j0 l at_ _ _ c.2 hl (by omega) k hk]
    · rw [if_neg d, if_neg d, rn_j0 l at_ _ _ c.2 hl (by omega) k hk]
  · rw [if_neg c, if_neg c]
    rfl
/-- An item renamed, as the reference tells it. -/
theorem rn_one (l : List S31) (i : Nat) (hl : l.length ≤ 1024) (hi : i < l.length) (hw : ∀ x ∈ l, x.f1.length ≤ 80000 ∧ x.f3.size ≤ 80000 ∧ x.f4.size ≤ 80000) (k : Nat) (hk : 100100 < k) :
    ∃ (y : S31) (b : Bool), quoinref21_renamed.f k l (i : Int) = some (y.f0, y.f1, y.f2, y.f3, y.f4, y.f5, y.f6, b) ∧ ((b = true ∧ oneB l i = some y) ∨ (b = false ∧ oneB l i = none)) := by
  obtain ⟨k, rfl⟩ : ∃ m, k = m + 2 := ⟨k - 2, by omega⟩
  unfold quoinref21_renamed.f oneB
  have hm := hw _ (rd_mem l i hi)
  obtain ⟨x, hx⟩ : ∃ x, x = rd_T31 l (i : Int) := ⟨_, rfl⟩
  rw [← hx] at hm ⊢
  have hlt : ([] : List Int).length + x.f1.length < 140737488355328 := by
    simp only [List.length_nil]
    omega
  rw [if_pos (by omega), if_pos (by omega), if_pos hlt]
  simp only [Option.bind_some, List.nil_append]
  have hfa := rn_field l i x.f3 hl hi hm.2.1 k (by omega)
  have hfb := rn_field l i x.f4 hl hi hm.2.2 k (by omega)
  rw [localr_eq x.f3 (by unfold maxLen; omega) (k + 2) (by omega)]
  simp only [Option.bind_some]
  have hrest : ∀ (lo : Bool), (tellsB x).size = 0 → lo = false → ∃ (y : S31) (b : Bool), quoinref21_renamed.j0 (k + 2) l (i : Int) lo x.f0 x.f1 x.f2 x.f3 x.f4 x.f5 x.f6 = some (y.f0, y.f1, y.f2, y.f3, y.f4, y.f5, y.f6, b) ∧ ((b = true ∧ (if x.f0 = 1 then (turnB l i x.f3).map fun s => { x with f3 := s } else if x.f0 = 3 then (turnB l i x.f3).bind fun s => (turnB l i x.f4).map fun t => { x with f3 := s, f4 := t } else some x) = some y) ∨ (b = false ∧ (if x.f0 = 1 then (turnB l i x.f3).map fun s => { x with f3 := s } else if x.f0 = 3 then (turnB l i x.f3).bind fun s => (turnB l i x.f4).map fun t => { x with f3 := s, f4 := t } else some x) = none)) := by
    rintro lo h0 rfl
    simp only [quoinref21_renamed.j0, Bool.false_eq_true, if_false]
    by_cases c1 : x.f0 = 1
    · rw [if_pos c1]
      simp only [quoinref21_renamed.j1, if_true]
      rw [hfa]
      simp only [Option.bind_some]
      rw [if_neg (show ¬ x.f0 = 3 by omega)]
      simp only [if_pos c1]
      cases turnB l i x.f3 with
      | none => exact ⟨{ x with f3 := ⟨#[]⟩ }, false, by simp [turned], .inr ⟨rfl, rfl⟩⟩
      | some t => exact ⟨{ x with f3 := t }, true, by simp [turned], .inl ⟨rfl, rfl⟩⟩
    · rw [if_neg c1]
      simp only [if_neg c1]
      by_cases c3 : x.f0 = 3
      · simp only [quoinref21_renamed.j1, if_pos c3, c3, beq_self_eq_true, if_true]
        rw [hfa]
        simp only [Option.bind_some]
        rw [hfb]
        simp only [Option.bind_some]
        cases turnB l i x.f3 with
        | none => exact ⟨{ x with f3 := ⟨#[]⟩, f4 := (turned (turnB l i x.f4)).1 }, false, by simp [turned, c3], .inr ⟨rfl, rfl⟩⟩
        | some t =>
          cases turnB l i x.f4 with
          | none => exact ⟨{ x with f3 := t, f4 := ⟨#[]⟩ }, false, by simp [turned, c3], .inr ⟨rfl, rfl⟩⟩
          | some u => exact ⟨{ x with f3 := t, f4 := u }, true, by simp [turned, c3], .inl ⟨rfl, by simp [c3]⟩⟩
      · have e3 : (x.f0 == 3) = false := beq_eq_false_iff_ne.2 c3
        simp only [quoinref21_renamed.j1, if_neg c3, e3, Bool.false_eq_true, if_false, if_true]
        exact ⟨x, true, rfl, .inl ⟨rfl, rfl⟩⟩
  have ht := tellsB_eq x
  by_cases c6 : x.f0 = 6
  · rw [if_pos c6]
    cases hlo : localB x.f3 with
    | true =>
      rw [if_pos ⟨c6, hlo⟩] at ht
      have hne := (local_nonempty hlo).1
      rw [ht]
      simp only [if_pos hne]
      simp only [quoinref21_renamed.j0, if_true]
      rw [rn_ahead l i x.f3 hlo hl (by omega) (k + 1) (by omega)]
      simp only [Option.bind_some]
      have hb := cnt_le l i x.f3
      obtain ⟨m, hm2⟩ : ∃ m : Nat, cnt l i x.f3 = (m : Int) := ⟨(cnt l i x.f3).toNat, by omega⟩
      rw [hm2, rn_named x.f3 m (k + 1) hlo (by omega) (by omega)]
      exact ⟨{ x with f3 := nameB x.f3 (m : Int) }, true, rfl, .inl ⟨rfl, rfl⟩⟩
    | false =>
      rw [if_neg (fun q => by rw [hlo] at q; cases q.2)] at ht
      have h0 : (tellsB x).size = 0 := by rw [ht]; rfl
      rw [if_neg (fun q => q h0)]
      exact hrest false h0 rfl
  · rw [if_neg c6]
    rw [if_neg (fun q => c6 q.1)] at ht
    have h0 : (tellsB x).size = 0 := by rw [ht]; rfl
    rw [if_neg (fun q => q h0)]
    exact hrest false h0 rfl
theorem rn_rename_l (l : List S31) (hl : l.length ≤ 1024) (hw : ∀ x ∈ l, x.f1.length ≤ 80000 ∧ x.f3.size ≤ 80000 ∧ x.f4.size ≤ 80000) : ∀ d i k (out : List S31), out.length = i → i + d = l.length → d + 100200 < k → quoinref21_Rename.l0 k l out (i : Int) = some (renameFrom l d i out) := by
  intro d
  induction d with
  | zero =>
    intro i k out h1 h2 h3
    obtain ⟨k, rfl⟩ : ∃ m, k = m + 1 := ⟨k - 1, by omega⟩
    simp only [quoinref21_Rename.l0, renameFrom]
    rw [if_neg (by omega)]
  | succ d ih =>
    intro i k out h1 h2 h3
    obtain ⟨k, rfl⟩ : ∃ m, k = m + 1 := ⟨k - 1, by omega⟩
    simp only [quoinref21_Rename.l0, renameFrom]
    obtain ⟨y, b, e1, e2⟩ := rn_one l i hl (by omega) hw k (by omega)
    rw [if_pos (by omega), e1]
    simp only [Option.bind_some]
    rcases e2 with ⟨rfl, e2⟩ | ⟨rfl, e2⟩
    · rw [if_pos rfl, if_pos (by omega), e2, rn_wrap i (by omega)]
      exact ih (i + 1) k (out ++ [y]) (by simp; omega) (by omega) (by omega)
    · rw [if_neg (by decide), e2]
theorem rn_rename (l : List S31) (hs : Small l) (k : Nat) (hk : 110000 < k) : quoinref21_Rename.f k l = some (renameF l) := by
  unfold quoinref21_Rename.f renameF
  by_cases h : l.length > 1024
  · rw [if_pos (by omega), if_pos h]
  · rw [if_neg (by omega), if_neg h]
    exact rn_rename_l l (by omega) hs.2 l.length 0 k [] rfl (by omega) (by omega)
theorem rn_one_words {l : List S31} {i : Nat} {y : S31} (h : oneB l i = some y) : y.f1 = (rd_T31 l (i : Int)).f1 := by
  unfold oneB at h
  split at h
  · obtain rfl := Option.some.inj h
    rfl
  · split at h
    · obtain ⟨s, _, rfl⟩ := Option.map_eq_some_iff.1 h
      rfl
    · split at h
      · obtain ⟨s, _, h⟩ := Option.bind_eq_some_iff.1 h
        obtain ⟨t, _, rfl⟩ := Option.map_eq_some_iff.1 h
        rfl
      · obtain rfl := Option.some.inj h
        rfl
theorem rn_lengths {l : List S31} (hs : Small l) : ∃ aa at_ e, renameF l = (aa, at_, e) ∧ aa.length ≤ 2000 ∧ ∀ x ∈ aa, x.f1.length ≤ 1000000 := by
  rcases renameF_cases l with ⟨_, h⟩ | ⟨a, h, h1, h2, h3⟩ | ⟨j, _, _, _, h⟩
  · exact ⟨_, _, _, h, by simp, fun x hx => by cases hx⟩
  · refine ⟨_, _, _, h, by omega, fun x hx => ?_⟩
    obtain ⟨j, hj, rfl⟩ := List.getElem_of_mem hx
    have e := rn_one_words (h3 j (by omega))
    rw [rd_get a j hj] at e
    rw [e]
    have := (hs.2 _ (rd_mem l j (by omega))).1
    omega
  · exact ⟨_, _, _, h, by simp, fun x hx => by cases hx⟩
theorem LabelsRename : quoinlaw21_LabelsRename.Pure := by
  intro l a n hwl _ _
  obtain ⟨gr, hg, hb⟩ := great_cases l
  refine ⟨200000, ?_⟩
  unfold quoinlaw21_LabelsRename.f
  rw [hg _ (by omega)]
  simp only [Option.bind_some]
  cases gr with
  | true => exact if_pos (.inl rfl)
  | false =>
    have hs := hb rfl
    by_cases ha : (1000 : Int) < (a.size : Int)
    · exact if_pos (.inr (.inl ha))
    refine if_pos (.inr (.inr ?_))
    have hlen : l.length ≤ 2000 := by have := hs.1; omega
    have htw : quoinref21_Twin.f 200000 l = some l := rn_twin l hlen (fun x hx => (hs.2 x hx).1) l.length 0 200000 rfl (by omega) (by omega)
    obtain ⟨aa, at_, e, h1, h2, h3⟩ := rn_lengths hs
    have hsm : ∀ z : List S31, z.length ≤ 2000 → quoinref21_Same.f 200000 z z = some true := fun z hz => by
      unfold quoinref21_Same.f
      rw [if_pos rfl]
      exact rn_same z hz z.length 0 200000 rfl (by omega) (by omega)
    obtain ⟨r, hr⟩ : ∃ r, labels_Name.f a n = some r := by
      unfold labels_Name.f
      rw [local_eq]
      simp only [Option.bind_some]
      repeat' split
      all_goals first | exact ⟨_, rfl⟩ | skip
      unfold labels_name.f
      rw [if_pos ⟨by omega, by omega, by omega⟩]
      exact ⟨_, rfl⟩
    obtain ⟨s, g⟩ := r
    refine quoinlaw21_LabelsRename.ok_of 200000 l a n l aa at_ e aa s g htw ?_ ?_ hr ?_ (hsm aa h2) (hsm l hlen) h2 h3
    · rw [rename_small hs, h1]
    · rw [rn_rename l hs 200000 (by omega), h1]
    · rw [rn_name a n 200000 (by omega) (by omega), hr]
end Go.Proofs.YtkjmbfabgkppaaaDoor.Pure
