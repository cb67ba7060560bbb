/- What the reference of layer 7 comes to: the same as package le; for any number, size, place, and bytes that are from 0 to 255, with enough rounds. -/
import Derived.Test.YtdhkmaiidbomdafZLe
import Derived.Test.YtdhkmaiidbomdafPx3
import Derived.Test.YtdhkmaiidbomdafPx4
namespace Go.Proofs.Ytdhkmaiidbomdaf.Z
open Go.RowKit Go.Proofs.Ytdhkmaiidbomdaf.P Go.Proofs.YtdhkmaiidbomdafW.PrintWords Go.Proofs.YtdhkmaiidbomdafW.PrintLast Go.Proofs.YtdhkmaiidbomdafW.PrintMore

theorem bytes_loop (d : Nat) : ∀ (k : Nat) (s : Int) (acc : List Int) (u i : Int), i + d = s → 0 ≤ i → s ≤ 1000 → d < k → 0 ≤ u → u < 18446744073709551616 → acc.length + d ≤ 1000000 →
    quoinref07_Bytes.l0 k s acc u i = some (acc ++ bytesI u d) := by
  induction d with
  | zero =>
    intro k s acc u i h0 h1 h2 hk hu0 hu1 ha
    obtain ⟨k, rfl⟩ : ∃ m, k = m + 1 := ⟨k - 1, by omega⟩
    simp only [quoinref07_Bytes.l0]
    rw [if_neg (by omega), bytesI_zero, List.append_nil]
  | succ d ih =>
    intro k s acc u i h0 h1 h2 hk hu0 hu1 ha
    obtain ⟨k, rfl⟩ : ∃ m, k = m + 1 := ⟨k - 1, by omega⟩
    simp only [quoinref07_Bytes.l0]
    rw [if_pos (by omega), if_pos (by omega), Int.tmod_eq_emod_of_nonneg hu0, Int.tdiv_eq_ediv_of_nonneg hu0, wrapu64, u64_id (by omega) (by omega), wrap64_id (by omega) (by omega),
      ih k s (acc ++ [u % 256 % 256]) (u / 256) (i + 1) (by omega) (by omega) h2 (by omega) (by omega) (by omega) (by simp; omega), bytesI_succ, List.append_assoc, Int.emod_emod_of_dvd _ (Int.dvd_refl _)]
    rfl
theorem refbytes_eq (n : Int) (s : Nat) (k : Nat) (hs : s ≤ 1000) (hk : s < k) : quoinref07_Bytes.f k n (s : Int) = some (bytesI (u64 n) s) := by
  unfold quoinref07_Bytes.f
  have := u64_range n
  rw [wrapu64, bytes_loop s k s [] (u64 n) 0 (by omega) (by omega) (by omega) hk (by omega) (by omega) (by simp; omega), List.nil_append]
theorem number_loop (l : List Int) (hl : AllB l) (h8 : l.length ≤ 8) (d : Nat) : ∀ (k : Nat) (i : Int), i + 1 = d → d ≤ l.length → d < k →
    quoinref07_Number.l0 k l (numI (l.drop d)) i = some (wrap64 (numI l)) := by
  induction d with
  | zero =>
    intro k i h0 h1 hk
    obtain ⟨k, rfl⟩ : ∃ m, k = m + 1 := ⟨k - 1, by omega⟩
    simp only [quoinref07_Number.l0]
    rw [if_neg (by omega), List.drop_zero]
  | succ d ih =>
    intro k i h0 h1 hk
    obtain ⟨k, rfl⟩ : ∃ m, k = m + 1 := ⟨k - 1, by omega⟩
    simp only [quoinref07_Number.l0]
    have hd : d < l.length := by omega
    have hi : i = (d : Int) := by omega
    subst hi
    have hr : rd l (d : Int) = l[d] := by
      unfold rd
      rw [Int.toNat_natCast, List.getD_eq_getElem?_getD, List.getElem?_eq_getElem hd]
      rfl
    have hb := hl l[d] (List.getElem_mem hd)
    have hn := numI_range (l.drop (d + 1)) (allB_drop hl (d + 1))
    rw [List.length_drop] at hn
    have hp : (2 : Int) ^ (8 * (l.length - (d + 1))) ≤ 72057594037927936 := by
      have : (2 : Int) ^ (8 * (l.length - (d + 1))) ≤ 2 ^ 56 := by exact_mod_cast Nat.pow_le_pow_right (show 0 < 2 by decide) (show 8 * (l.length - (d + 1)) ≤ 56 by omega)
      simpa using this
    have e : numI (l.drop d) = numI (l.drop (d + 1)) * 256 + l[d] := by
      rw [List.drop_eq_getElem_cons hd, numI]
      omega
    rw [if_pos (by omega), if_pos (by omega), if_pos (by omega), hr, wrapu64, wrapu64, wrapu64, u64_id (n := l[d]) (by omega) (by omega), u64_id (n := numI (l.drop (d + 1)) * 256) (by omega) (by omega),
      u64_id (by omega) (by omega), ← e, wrap64_id (by omega) (by omega)]
    exact ih k ((d : Int) - 1) (by omega) (by omega) (by omega)
theorem number_eq (l : List Int) (hl : AllB l) (h8 : l.length ≤ 8) (k : Nat) (hk : 9 ≤ k) : quoinref07_Number.f k l = some (wrap64 (numI l)) := by
  unfold quoinref07_Number.f
  rw [wrap64_id (by omega) (by omega)]
  have := number_loop l hl h8 l.length k ((l.length : Int) - 1) (by omega) (by omega) (by omega)
  rw [List.drop_of_length_le (Nat.le_refl _)] at this
  exact this
end Go.Proofs.Ytdhkmaiidbomdaf.Z
