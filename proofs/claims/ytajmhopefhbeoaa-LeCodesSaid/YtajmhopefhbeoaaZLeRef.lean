/- What the reference of layer 7 comes to: the same as package le; for any number, size, place, and bytes that are from 0 to 255, with enough rounds. -/
import Derived.Test.YtajmhopefhbeoaaZLe
import Derived.Test.YtajmhopefhbeoaaPx4
namespace Go.Proofs.Ytajmhopefhbeoaa.Z
open Go.RowKit Go.Proofs.Ytajmhopefhbeoaa.P Go.Proofs.YtajmhopefhbeoaaW.PrintWords Go.Proofs.YtajmhopefhbeoaaW.PrintLast Go.Proofs.YtajmhopefhbeoaaW.PrintMore

theorem bytes_loop (d : Nat) : ∀ (k : Nat) (s : Int) (acc : List Int) (u i : Int), i + d = s → 0 ≤ i → s ≤ 1000 → d < k → 0 ≤ u → u < 18446744073709551616 → acc.length + d ≤ 1000000 →
    quoinref07_Bytes.l0 k s acc u i = some (acc ++ bytesI u d) := by
  induction d with
  | zero =>
    intro k s acc u i h0 h1 h2 hk hu0 hu1 ha
    obtain ⟨k, rfl⟩ : ∃ m, k = m + 1 := ⟨k - 1, by omega⟩
    simp only [quoinref07_Bytes.l0]
    rw [if_neg (by omega), bytesI_zero, List.append_nil]
  | succ d ih =>
    intro k s acc u i h0 h1 h2 hk hu0 hu1 ha
    obtain ⟨k, rfl⟩ : ∃ m, k = m + 1 := ⟨k - 1, by omega⟩
    simp only [quoinref07_Bytes.l0]
    rw [if_pos (by omega), if_pos (by omega), Int.tmod_eq_emod_of_nonneg hu0, Int.tdiv_eq_ediv_of_nonneg hu0, wrapu64, u64_id (by omega) (by omega), wrap64_id (by omega) (by omega),
      ih k s (acc ++ [u % 256 % 256]) (u / 256) (i + 1) (by omega) (by omega) h2 (by omega) (by omega) (by omega) (by simp; omega), bytesI_succ, List.append_assoc, Int.emod_emod_of_dvd _ (Int.dvd_refl _)]
    rfl
theorem refbytes_eq (n : Int) (s : Nat) (k : Nat) (hs : s ≤ 1000) (hk : s < k) : quoinref07_Bytes.f k n (s : Int) = some (bytesI (u64 n) s) := by
  unfold quoinref07_Bytes.f
  have := u64_range n
  rw [wrapu64, bytes_loop s k s [] (u64 n) 0 (by omega) (by omega) (by omega) hk (by omega) (by omega) (by simp; omega), List.nil_append]
theorem refmay_eq (n s : Int) : quoinref07_May.f n s = some (putOk n s) := by
  unfold quoinref07_May.f putOk sizeOk
  by_cases h1 : s = 1
  · subst h1
    by_cases hn : n ≥ 0
    · by_cases hl : n < 256 <;> simp [hn, hl]
    · rw [if_pos rfl, if_neg hn]
      simp
      omega
  · by_cases h2 : s = 2
    · subst h2
      by_cases hn : n ≥ 0
      · by_cases hl : n < 65536 <;> simp [hn, hl]
      · rw [if_neg h1, if_pos rfl, if_neg hn]
        simp
        omega
    · by_cases h4 : s = 4
      · subst h4
        by_cases hn : n ≥ 0
        · by_cases hl : n < 4294967296 <;> simp [hn, hl]
        · rw [if_neg h1, if_neg h2, if_pos rfl, if_neg hn]
          simp
          omega
      · rw [if_neg h1, if_neg h2, if_neg h4]
        by_cases h8 : s = 8 <;> simp [h1, h2, h4, h8]
theorem refput_eq (n s : Int) (k : Nat) (hk : 10 ≤ k) : quoinref07_Put.f k n s = some (putAns n s) := by
  unfold quoinref07_Put.f putAns
  rw [refmay_eq]
  simp only [Option.bind_some]
  by_cases h : putOk n s = true
  · rw [if_pos h, if_pos h]
    have h4 := (sizeOk_iff s).1 ((putOk_iff n s).1 h).1
    obtain ⟨t, rfl⟩ : ∃ t : Nat, s = t := ⟨s.toNat, by omega⟩
    rw [refbytes_eq n t k (by omega) (by omega)]
    simp
  · rw [if_neg h, if_neg h]
theorem number_loop (l : List Int) (hl : AllB l) (h8 : l.length ≤ 8) (d : Nat) : ∀ (k : Nat) (i : Int), i + 1 = d → d ≤ l.length → d < k →
    quoinref07_Number.l0 k l (numI (l.drop d)) i = some (wrap64 (numI l)) := by
  induction d with
  | zero =>
    intro k i h0 h1 hk
    obtain ⟨k, rfl⟩ : ∃ m, k = m + 1 := ⟨k - 1, by omega⟩
    simp only [quoinref07_Number.l0]
    rw [if_neg (by omega), List.drop_zero]
  | succ d ih =>
    intro k i h0 h1 hk
    obtain ⟨k, rfl⟩ : ∃ m, k = m + 1 := ⟨k - 1, by omega⟩
    simp only [quoinref07_Number.l0]
    have hd : d < l.length := by omega
    have hi : i = (d : Int) := by omega
    subst hi
    have hr : rd l (d : Int) = l[d] := by
      unfold rd
      rw [Int.toNat_natCast, List.getD_eq_getElem?_getD, List.getElem?_eq_getElem hd]
      rfl
    have hb := hl l[d] (List.getElem_mem hd)
    have hn := numI_range (l.drop (d + 1)) (allB_drop hl (d + 1))
    rw [List.length_drop] at hn
    have hp : (2 : Int) ^ (8 * (l.length - (d + 1))) ≤ 72057594037927936 := by
      have : (2 : Int) ^ (8 * (l.length - (d + 1))) ≤ 2 ^ 56 := by exact_mod_cast Nat.pow_le_pow_right (show 0 < 2 by decide) (show 8 * (l.length - (d + 1)) ≤ 56 by omega)
      simpa using this
    have e : numI (l.drop d) = numI (l.drop (d + 1)) * 256 + l[d] := by
      rw [List.drop_eq_getElem_cons hd, numI]
      omega
    rw [if_pos (by omega), if_pos (by omega), if_pos (by omega), hr, wrapu64, wrapu64, wrapu64, u64_id (n := l[d]) (by omega) (by omega), u64_id (n := numI (l.drop (d + 1)) * 256) (by omega) (by omega),
      u64_id (by omega) (by omega), ← e, wrap64_id (by omega) (by omega)]
    exact ih k ((d : Int) - 1) (by omega) (by omega) (by omega)
theorem number_eq (l : List Int) (hl : AllB l) (h8 : l.length ≤ 8) (k : Nat) (hk : 9 ≤ k) : quoinref07_Number.f k l = some (wrap64 (numI l)) := by
  unfold quoinref07_Number.f
  rw [wrap64_id (by omega) (by omega)]
  have := number_loop l hl h8 l.length k ((l.length : Int) - 1) (by omega) (by omega) (by omega)
  rw [List.drop_of_length_le (Nat.le_refl _)] at this
  exact this
theorem refsize_eq (s : Int) : quoinref07_Size.f s = some (sizeOk s) := by
  unfold quoinref07_Size.f sizeOk
  by_cases h1 : s = 1
  · simp [h1]
  · by_cases h2 : s = 2
    · simp [h2]
    · by_cases h4 : s = 4
      · simp [h4]
      · by_cases h8 : s = 8
        · simp [h8]
        · simp [h1, h2, h4, h8]
theorem refget_eq (l : List Int) (at_ s : Int) (k : Nat) (hk : 10 ≤ k) (hl : AllB l) (hlen : l.length ≤ 140737488351232)
    (ha : -9223372036854775808 ≤ at_ ∧ at_ ≤ 9223372036854775807) : quoinref07_Get.f k l at_ s = some (getAns l at_ s) := by
  unfold quoinref07_Get.f getAns
  rw [refsize_eq]
  simp only [Option.bind_some]
  by_cases hs : sizeOk s = true
  · rw [if_pos hs, if_pos hs]
    have h4 := (sizeOk_iff s).1 hs
    by_cases h0 : at_ < 0
    · rw [if_pos h0, if_neg (by omega)]
    · rw [if_neg h0]
      by_cases h1 : at_ > (l.length : Int)
      · rw [if_pos h1, if_neg (by omega)]
      · rw [if_neg h1, wrap64_id (by omega) (by omega)]
        by_cases h2 : (l.length : Int) - at_ < s
        · rw [if_pos h2, if_neg (by omega)]
        · rw [if_neg h2, wrap64_id (by omega) (by omega), if_pos (by omega), if_pos (by omega), if_pos (by omega), if_pos (by omega)]
          have e : (l.take (at_ + s).toNat).drop at_.toNat = (l.drop at_.toNat).take s.toNat := by
            rw [List.drop_take]
            congr 1
            omega
          rw [e, number_eq _ (allB_take (allB_drop hl _) _) (by simp; omega) k (by omega)]
          rfl
  · rw [if_neg hs, if_neg hs]
end Go.Proofs.Ytajmhopefhbeoaa.Z
