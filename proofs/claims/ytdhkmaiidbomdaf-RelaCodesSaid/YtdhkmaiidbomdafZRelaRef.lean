/- The reference of layer 11 tells, writes and reads the same as package rela; for any numbers, sections and bytes, with enough rounds. -/
import Derived.Test.YtdhkmaiidbomdafZRelaRead
import Derived.Test.YtdhkmaiidbomdafZRelaCheck
import Derived.Test.YtdhkmaiidbomdafZRefB
import Derived.Test.YtdhkmaiidbomdafPx2
import Derived.Test.YtdhkmaiidbomdafPx3
import Derived.Test.YtdhkmaiidbomdafPx4
import Derived.Test.YtdhkmaiidbomdafPx8
import Derived.Test.YtdhkmaiidbomdafPx9
import Derived.Test.YtdhkmaiidbomdafPx7
namespace Go.Proofs.Ytdhkmaiidbomdaf.Z
open Go.RowKit Go.Proofs.Ytdhkmaiidbomdaf.P Go.Proofs.YtdhkmaiidbomdafW.PrintWords Go.Proofs.YtdhkmaiidbomdafW.PrintLast Go.Proofs.YtdhkmaiidbomdafW.PrintMore
set_option linter.unusedSimpArgs false
set_option linter.unusedVariables false
def aboutAns (kd : Int) : Int := if (fieldAns kd).2 = 0 then (fieldAns kd).1 else -1
theorem about_eq {kd : Int} (h : 0 ≤ kd ∧ kd ≤ 255) {k : Nat} (hk : 5 ≤ k) : quoinref11_About.f k kd = some (aboutAns kd) :=
  mono_some (g := fun k => quoinref11_About.f k kd) (fun k => quoinref11_About.mono kd k) (u8_all (P := fun x => quoinref11_About.f 5 x = some (aboutAns x)) (by decide +kernel) h) hk
theorem reffield_eq {kd : Int} (h : 0 ≤ kd ∧ kd ≤ 255) {k : Nat} (hk : 5 ≤ k) : quoinref11_Field.f k kd = some (fieldAns kd) := by
  have v := field_vals h
  unfold quoinref11_Field.f
  rw [about_eq h hk]
  simp only [Option.bind_some, aboutAns]
  by_cases c : (fieldAns kd).2 = 0
  · rw [if_pos c, if_neg (by omega)]
    congr 1
    exact Prod.ext rfl c.symm
  · rw [if_neg c, if_pos (by omega)]
    congr 1
    exact Prod.ext (by show (0 : Int) = _; omega) (by show (2 : Int) = _; omega)
theorem addend_eq (n : Int) : quoinref11_addend.f n = some (decide (-2147483648 ≤ n ∧ n ≤ 4294967295)) := by
  unfold quoinref11_addend.f
  by_cases h : n ≥ -2147483648
  · rw [if_pos h]
    congr 1
    exact decide_eq_decide.mpr (by omega)
  · rw [if_neg h, decide_eq_false (by omega)]
theorem coded_eq (sec off kd sym add : Int) (hkd : 0 ≤ kd ∧ kd ≤ 255) (k : Nat) (hk : 5 ≤ k) : quoinref11_coded.f k sec off kd sym add = some (relaOk off kd sym add) := by
  have v := field_vals hkd
  unfold quoinref11_coded.f relaOk
  rw [about_eq hkd hk, addend_eq]
  simp only [Option.bind_some, aboutAns]
  by_cases c0 : (fieldAns kd).2 = 0
  · rw [if_pos c0, if_pos (show (fieldAns kd).1 ≥ 0 by omega)]
    by_cases c1 : off ≥ 0
    · rw [if_pos c1]
      by_cases c2 : off ≤ 4096
      · rw [if_pos c2]
        by_cases c3 : sym ≥ -1
        · rw [if_pos c3]
          by_cases c4 : sym < 64
          · rw [if_pos c4]
            congr 1
            exact decide_eq_decide.mpr (by omega)
          · rw [if_neg c4, decide_eq_false (by omega)]
        · rw [if_neg c3, decide_eq_false (by omega)]
      · rw [if_neg c2, decide_eq_false (by omega)]
    · rw [if_neg c1, decide_eq_false (by omega)]
  · rw [if_neg c0, if_neg (by decide), decide_eq_false (fun h => c0 h.1)]
theorem refrelabytes_eq (sec off kd sym add : Int) (hkd : 0 ≤ kd ∧ kd ≤ 255) (hs : -1 ≤ sym ∧ sym ≤ 63) (k : Nat) (hk : 9 ≤ k) : quoinref11_Bytes.f k sec off kd sym add = some (relaBytes off kd sym add) := by
  unfold quoinref11_Bytes.f relaBytes
  rw [wrap64_id (n := kd) (by omega) (by omega), wrap64_id (n := sym + 1) (by omega) (by omega)]
  have b8 := fun x => refbytes_eq x 8 k (by omega) (by omega)
  have b4 := fun x => refbytes_eq x 4 k (by omega) (by omega)
  simp only [show (8 : Int) = ((8 : Nat) : Int) from rfl, show (4 : Int) = ((4 : Nat) : Int) from rfl, b8, b4, Option.bind_some, List.length_append, bytesI_length]
  rw [if_pos (by decide), if_pos (by decide), if_pos (by decide)]
  simp only [List.append_assoc]
theorem refrelawrite_eq (sec off kd sym add : Int) (hkd : 0 ≤ kd ∧ kd ≤ 255) (k : Nat) (hk : 9 ≤ k) : quoinref11_Write.f k sec off kd sym add = some (relaAns off kd sym add) := by
  unfold quoinref11_Write.f relaAns
  rw [coded_eq _ _ _ _ _ hkd k (by omega)]
  simp only [Option.bind_some]
  by_cases h : relaOk off kd sym add = true
  · have q := relaOk_iff.1 h
    rw [if_pos h, if_pos h, refrelabytes_eq _ _ _ _ _ hkd (by omega) k hk]
    rfl
  · rw [if_neg h, if_neg h]
theorem get4_range {l : List Int} (h24 : l.length = 24) (hl : AllB l) (p : Nat) (hp : p + 4 ≤ 24) : 0 ≤ (getAns l (p : Int) 4).1 ∧ (getAns l (p : Int) 4).1 < 4294967296 := by
  unfold getAns
  rw [if_pos (by decide), if_pos (by omega)]
  have hr := numI_range ((l.drop p).take 4) (allB_take (allB_drop hl p) 4)
  have : ((l.drop p).take 4).length = 4 := by simp; omega
  rw [this] at hr
  show 0 ≤ wrap64 (numI ((l.drop ((p : Int)).toNat).take (4 : Int).toNat)) ∧ wrap64 (numI ((l.drop ((p : Int)).toNat).take (4 : Int).toNat)) < 4294967296
  rw [Int.toNat_natCast, show (4 : Int).toNat = 4 from rfl, wrap64_id (by omega) (by omega)]
  simpa using hr
theorem seg_put {l : List Int} (hl : AllB l) (h24 : l.length = 24) (p s : Nat) (hs : s = 4 ∨ s = 8) (hp : p + s ≤ 24) : bytesI (u64 (getAns l (p : Int) (s : Int)).1) s = (l.drop p).take s := by
  have hso : sizeOk (s : Int) = true := (sizeOk_iff _).2 (by omega)
  have g := put_get (at_ := (p : Int)) (s := (s : Int)) hl hso (by omega) (by omega)
  have hok : putOk (getAns l (p : Int) (s : Int)).1 (s : Int) = true := putAns_ok (by rw [g])
  rw [putAns_yes hok] at g
  have := congrArg Prod.fst g
  simpa using this
theorem parts4 (l : List Int) (h24 : l.length = 24) : l = (l.drop 0).take 8 ++ ((l.drop 8).take 4 ++ ((l.drop 12).take 4 ++ (l.drop 16).take 8)) := by
  have h1 : (l.drop 16).take 8 = l.drop 16 := List.take_of_length_le (by simp; omega)
  have h2 : (l.drop 12).take 4 ++ l.drop 16 = l.drop 12 := by
    have := List.take_append_drop 4 (l.drop 12)
    rw [List.drop_drop] at this
    exact this
  have h3 : (l.drop 8).take 4 ++ l.drop 12 = l.drop 8 := by
    have := List.take_append_drop 4 (l.drop 8)
    rw [List.drop_drop] at this
    exact this
  rw [h1, h2, h3, List.drop_zero, List.take_append_drop]
theorem refrelaread_eq (l : List Int) (hl : AllB l) (k : Nat) (hk : 20 ≤ k) : quoinref11_Read.f k l = some (relaReadAns l) := by
  unfold quoinref11_Read.f relaReadAns
  by_cases h : (l.length : Int) = 24
  · have h24 : l.length = 24 := by omega
    have n8 : wrap64 (numI ((l.take 12).drop 8)) = (getAns l 8 4).1 := by
      unfold getAns
      rw [if_pos (by decide), if_pos (by omega), List.drop_take]
      rfl
    have n0 : wrap64 (numI (l.take 8)) = relaOff l := by
      unfold relaOff getAns
      rw [if_pos (by decide), if_pos (by omega)]
      rfl
    have n12 : wrap64 (numI ((l.take 16).drop 12)) = (getAns l 12 4).1 := by
      unfold getAns
      rw [if_pos (by decide), if_pos (by omega), List.drop_take]
      rfl
    have n16 : wrap64 (numI (l.drop 16)) = relaAdd l := by
      unfold relaAdd getAns
      rw [if_pos (by decide), if_pos (by omega)]
      have : (l.drop (16 : Int).toNat).take (8 : Int).toNat = l.drop 16 := List.take_of_length_le (by simp; omega)
      rw [this]
    have hK := get4_range h24 hl 8 (by omega)
    have hS := get4_range h24 hl 12 (by omega)
    have hK : 0 ≤ (getAns l 8 4).1 ∧ (getAns l 8 4).1 < 4294967296 := hK
    have hS : 0 ≤ (getAns l 12 4).1 ∧ (getAns l 12 4).1 < 4294967296 := hS
    rw [if_pos h, if_pos h24, if_pos (by decide), if_pos (by omega), number_eq _ (allB_drop (allB_take hl 12) 8) (by simp; omega) k (by omega)]
    simp only [Option.bind_some]
    rw [if_pos (by omega), number_eq _ (allB_take hl 8) (by simp; omega) k (by omega)]
    simp only [Option.bind_some]
    rw [if_pos (by decide), if_pos (by omega), number_eq _ (allB_drop (allB_take hl 16) 12) (by simp; omega) k (by omega)]
    simp only [Option.bind_some]
    rw [number_eq _ (allB_drop hl 16) (by simp; omega) k (by omega)]
    simp only [Option.bind_some]
    rw [n8, n0, n12, n16]
    have hsym : wrap64 ((getAns l 12 4).1 - 1) = relaSym l := rfl
    rw [hsym, Int.tmod_eq_emod_of_nonneg hK.1]
    by_cases c : (getAns l 8 4).1 > 255
    · rw [if_pos c, if_neg]
      intro hf
      have hp := get_put (n := relaKind l) (s := 4) (bytesI (u64 (relaOff l)) 8) (bytesI (u64 (relaSym l + 1)) 4 ++ bytesI (u64 (relaAdd l)) 8) ((putOk_iff _ _).2 ⟨by decide, .inr ⟨by have := relaKind_u8 l; omega, by have := relaKind_u8 l; simp; omega⟩⟩) (by have := relaKind_u8 l; omega) (by have := relaKind_u8 l; omega)
      have e : bytesI (u64 (relaOff l)) 8 ++ bytesI (u64 (relaKind l)) (4 : Int).toNat ++ (bytesI (u64 (relaSym l + 1)) 4 ++ bytesI (u64 (relaAdd l)) 8) = l := by
        rw [List.append_assoc]
        exact hf.2
      rw [e, bytesI_length] at hp
      have := congrArg Prod.fst hp
      have hk := relaKind_u8 l
      simp only at this
      have h2 : (getAns l 8 4).1 = relaKind l := this
      omega
    · have hk : (getAns l 8 4).1 % 256 % 256 = relaKind l := by unfold relaKind; omega
      have hk2 : (getAns l 8 4).1 = relaKind l := by unfold relaKind; omega
      rw [if_neg c, hk, coded_eq _ _ _ _ _ (relaKind_u8 l) k (by omega)]
      simp only [Option.bind_some]
      by_cases ho : relaOk (relaOff l) (relaKind l) (relaSym l) (relaAdd l) = true
      · have hb : relaBytes (relaOff l) (relaKind l) (relaSym l) (relaAdd l) = l := by
          have s0 := seg_put hl h24 0 8 (by omega) (by omega)
          have s1 := seg_put hl h24 8 4 (by omega) (by omega)
          have s2 := seg_put hl h24 12 4 (by omega) (by omega)
          have s3 := seg_put hl h24 16 8 (by omega) (by omega)
          have e1 : (getAns l ((8 : Nat) : Int) ((4 : Nat) : Int)).1 = relaKind l := hk2
          have e2 : (getAns l ((12 : Nat) : Int) ((4 : Nat) : Int)).1 = relaSym l + 1 := by
            unfold relaSym
            rw [wrap64_id (by omega) (by omega)]
            show (getAns l 12 4).1 = _
            omega
          rw [e1] at s1
          rw [e2] at s2
          have s0' : bytesI (u64 (relaOff l)) 8 = (l.drop 0).take 8 := s0
          have s3' : bytesI (u64 (relaAdd l)) 8 = (l.drop 16).take 8 := s3
          unfold relaBytes
          rw [s0', s1, s2, s3']
          exact (parts4 l h24).symm
        rw [if_pos ho, if_pos (show relaFits l from ⟨ho, hb⟩)]
      · rw [if_neg ho, if_neg (show ¬ relaFits l from fun h => ho h.1)]
  · rw [if_neg h, if_neg (by omega)]
end Go.Proofs.Ytdhkmaiidbomdaf.Z
