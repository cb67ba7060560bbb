/- The reference of layer 9 writes and reads heads the same as package sect; for any numbers and bytes, with enough rounds. -/
import Derived.Test.YtdhkmaiidbomdabZHead
import Derived.Test.YtdhkmaiidbomdabZRefB
import Derived.Test.YtdhkmaiidbomdabPx2
import Derived.Test.YtdhkmaiidbomdabPx3
import Derived.Test.YtdhkmaiidbomdabPx4
import Derived.Test.YtdhkmaiidbomdabPx5
namespace Go.Proofs.Ytdhkmaiidbomdab.Z
open Go.RowKit Go.Proofs.Ytdhkmaiidbomdab.P Go.Proofs.YtdhkmaiidbomdabW.PrintWords Go.Proofs.YtdhkmaiidbomdabW.PrintLast Go.Proofs.YtdhkmaiidbomdabW.PrintMore
set_option linter.unusedSimpArgs false
set_option linter.unusedVariables false
theorem small_eq (n : Int) : quoinref09_small.f n = some (decide (0 ≤ n ∧ n < 4294967296)) := by
  unfold quoinref09_small.f
  by_cases h : n ≥ 0
  · rw [if_pos h]
    congr 1
    exact decide_eq_decide.mpr ⟨fun c => ⟨h, c⟩, fun c => c.2⟩
  · rw [if_neg h, decide_eq_false (fun c => h c.1)]
theorem partOk4 (n : Int) : partOk (n, 4) = true ↔ 0 ≤ n ∧ n < 4294967296 := by
  rw [partOk_iff, putOk_iff]
  constructor
  · rintro ⟨⟨_, h | h⟩, h2⟩
    · exact absurd (show (4 : Int) = 8 from h) (by decide)
    · exact ⟨h2, by have := h.2; simpa using this⟩
  · intro h
    exact ⟨⟨(show sizeOk 4 = true by decide), .inr ⟨h.1, by simpa using h.2⟩⟩, h.1⟩
theorem partOk8 (n : Int) : partOk (n, 8) = true ↔ 0 ≤ n := by
  rw [partOk_iff, putOk_iff]
  exact ⟨fun h => h.2, fun h => ⟨⟨(show sizeOk 8 = true by decide), .inl rfl⟩, h⟩⟩
theorem headOk_iff (h0 h1 h2 h3 h4 h5 h6 h7 h8 h9 : Int) : headOk (headPs h0 h1 h2 h3 h4 h5 h6 h7 h8 h9) = true ↔ (0 ≤ h0 ∧ h0 < 4294967296) ∧ (0 ≤ h1 ∧ h1 < 4294967296) ∧ (0 ≤ h6 ∧ h6 < 4294967296) ∧ (0 ≤ h7 ∧ h7 < 4294967296) ∧ h2 ≥ 0 ∧ h3 ≥ 0 ∧ h4 ≥ 0 ∧ h5 ≥ 0 ∧ h8 ≥ 0 ∧ h9 ≥ 0 := by
  unfold headOk
  simp only [List.all_cons, List.all_nil, Bool.and_true, Bool.and_eq_true, partOk4, partOk8]
  constructor
  · rintro ⟨a0, a1, a2, a3, a4, a5, a6, a7, a8, a9⟩
    exact ⟨a0, a1, a6, a7, a2, a3, a4, a5, a8, a9⟩
  · rintro ⟨a0, a1, a6, a7, a2, a3, a4, a5, a8, a9⟩
    exact ⟨a0, a1, a2, a3, a4, a5, a6, a7, a8, a9⟩
theorem mayhead_eq (h0 h1 h2 h3 h4 h5 h6 h7 h8 h9 : Int) : quoinref09_MayHead.f h0 h1 h2 h3 h4 h5 h6 h7 h8 h9 = some (headOk (headPs h0 h1 h2 h3 h4 h5 h6 h7 h8 h9)) := by
  have k := headOk_iff h0 h1 h2 h3 h4 h5 h6 h7 h8 h9
  have no : ∀ b : Bool, ¬ (b = true) → some false = some b := fun b hb => by cases b <;> simp_all
  unfold quoinref09_MayHead.f
  simp only [small_eq, Option.bind_some]
  by_cases c0 : 0 ≤ h0 ∧ h0 < 4294967296
  · rw [decide_eq_true c0, if_pos rfl]
    by_cases c1 : 0 ≤ h1 ∧ h1 < 4294967296
    · rw [decide_eq_true c1, if_pos rfl]
      by_cases c6 : 0 ≤ h6 ∧ h6 < 4294967296
      · rw [decide_eq_true c6, if_pos rfl]
        by_cases c7 : 0 ≤ h7 ∧ h7 < 4294967296
        · rw [decide_eq_true c7, if_pos rfl]
          by_cases c2 : h2 ≥ 0
          · rw [if_pos c2]
            by_cases c3 : h3 ≥ 0
            · rw [if_pos c3]
              by_cases c4 : h4 ≥ 0
              · rw [if_pos c4]
                by_cases c5 : h5 ≥ 0
                · rw [if_pos c5]
                  by_cases c8 : h8 ≥ 0
                  · rw [if_pos c8]
                    congr 1
                    by_cases c9 : h9 ≥ 0
                    · rw [decide_eq_true c9, k.2 ⟨c0, c1, c6, c7, c2, c3, c4, c5, c8, c9⟩]
                    · rw [decide_eq_false c9]
                      exact Option.some.inj (no _ (fun h => c9 (k.1 h).2.2.2.2.2.2.2.2.2))
                  · rw [if_neg c8]
                    exact no _ (fun h => c8 (k.1 h).2.2.2.2.2.2.2.2.1)
                · rw [if_neg c5]
                  exact no _ (fun h => c5 (k.1 h).2.2.2.2.2.2.2.1)
              · rw [if_neg c4]
                exact no _ (fun h => c4 (k.1 h).2.2.2.2.2.2.1)
            · rw [if_neg c3]
              exact no _ (fun h => c3 (k.1 h).2.2.2.2.2.1)
          · rw [if_neg c2]
            exact no _ (fun h => c2 (k.1 h).2.2.2.2.1)
        · rw [decide_eq_false c7, if_neg (by simp)]
          exact no _ (fun h => c7 (k.1 h).2.2.2.1)
      · rw [decide_eq_false c6, if_neg (by simp)]
        exact no _ (fun h => c6 (k.1 h).2.2.1)
    · rw [decide_eq_false c1, if_neg (by simp)]
      exact no _ (fun h => c1 (k.1 h).2.1)
  · rw [decide_eq_false c0, if_neg (by simp)]
    exact no _ (fun h => c0 (k.1 h).1)
theorem refhead_eq (h0 h1 h2 h3 h4 h5 h6 h7 h8 h9 : Int) (k : Nat) (hk : 20 ≤ k) : quoinref09_Bytes.f k h0 h1 h2 h3 h4 h5 h6 h7 h8 h9 = some (headBytes (headPs h0 h1 h2 h3 h4 h5 h6 h7 h8 h9)) := by
  have b8 := fun x => refbytes_eq x 8 k (by omega) (by omega)
  have b4 := fun x => refbytes_eq x 4 k (by omega) (by omega)
  have b8' : ∀ x, quoinref07_Bytes.f k x 8 = some (bytesI (u64 x) 8) := b8
  have b4' : ∀ x, quoinref07_Bytes.f k x 4 = some (bytesI (u64 x) 4) := b4
  unfold quoinref09_Bytes.f
  simp only [b8', b4', Option.bind_some, List.length_append, bytesI_length]
  simp [headBytes, partBytes, List.append_assoc]
theorem refheadwrite_eq (h0 h1 h2 h3 h4 h5 h6 h7 h8 h9 : Int) (k : Nat) (hk : 20 ≤ k) : quoinref09_Write.f k h0 h1 h2 h3 h4 h5 h6 h7 h8 h9 = some (headAns (headPs h0 h1 h2 h3 h4 h5 h6 h7 h8 h9)) := by
  unfold quoinref09_Write.f headAns
  rw [mayhead_eq, refhead_eq _ _ _ _ _ _ _ _ _ _ k hk]
  simp only [Option.bind_some]
  split <;> rfl
theorem seg_num {l : List Int} (h64 : l.length = 64) (p s : Nat) (hs : s = 4 ∨ s = 8) (hp : p + s ≤ 64) : wrap64 (numI ((l.take (p + s)).drop p)) = (getAns l (p : Int) (s : Int)).1 := by
  unfold getAns
  rw [if_pos ((sizeOk_iff _).2 (by omega)), if_pos (by omega), List.drop_take, Int.toNat_natCast, Int.toNat_natCast, show p + s - p = s by omega]
theorem refheadread_eq (l : List Int) (hl : AllB l) (k : Nat) (hk : 20 ≤ k) : quoinref09_Read.f k l = some (headReadAns l) := by
  unfold quoinref09_Read.f headReadAns
  by_cases h : (l.length : Int) = 64
  · have h64 : l.length = 64 := by omega
    have nums : headNums l 0 headSz = [(getAns l 0 4).1, (getAns l 4 4).1, (getAns l 8 8).1, (getAns l 16 8).1, (getAns l 24 8).1, (getAns l 32 8).1, (getAns l 40 4).1, (getAns l 44 4).1, (getAns l 48 8).1, (getAns l 56 8).1] := rfl
    rw [if_pos h, if_pos h64, if_pos (by omega)]
    have n0 : wrap64 (numI (l.take 4)) = (getAns l 0 4).1 := seg_num h64 0 4 (by omega) (by omega)
    have n1 : wrap64 (numI ((l.take 8).drop 4)) = (getAns l 4 4).1 := seg_num h64 4 4 (by omega) (by omega)
    have n2 : wrap64 (numI ((l.take 16).drop 8)) = (getAns l 8 8).1 := seg_num h64 8 8 (by omega) (by omega)
    have n3 : wrap64 (numI ((l.take 24).drop 16)) = (getAns l 16 8).1 := seg_num h64 16 8 (by omega) (by omega)
    have n4 : wrap64 (numI ((l.take 32).drop 24)) = (getAns l 24 8).1 := seg_num h64 24 8 (by omega) (by omega)
    have n5 : wrap64 (numI ((l.take 40).drop 32)) = (getAns l 32 8).1 := seg_num h64 32 8 (by omega) (by omega)
    have n6 : wrap64 (numI ((l.take 44).drop 40)) = (getAns l 40 4).1 := seg_num h64 40 4 (by omega) (by omega)
    have n7 : wrap64 (numI ((l.take 48).drop 44)) = (getAns l 44 4).1 := seg_num h64 44 4 (by omega) (by omega)
    have n8 : wrap64 (numI ((l.take 56).drop 48)) = (getAns l 48 8).1 := seg_num h64 48 8 (by omega) (by omega)
    have n9 : wrap64 (numI ((l.take 64).drop 56)) = (getAns l 56 8).1 := seg_num h64 56 8 (by omega) (by omega)
    rw [number_eq _ (allB_take hl 4) (by simp; omega) k (by omega)]
    simp only [Option.bind_some]
    rw [if_pos (by decide), if_pos (by omega)]
    rw [number_eq _ (allB_drop (allB_take hl 8) 4) (by simp; omega) k (by omega)]
    simp only [Option.bind_some]
    rw [if_pos (by decide), if_pos (by omega)]
    rw [number_eq _ (allB_drop (allB_take hl 16) 8) (by simp; omega) k (by omega)]
    simp only [Option.bind_some]
    rw [if_pos (by decide), if_pos (by omega)]
    rw [number_eq _ (allB_drop (allB_take hl 24) 16) (by simp; omega) k (by omega)]
    simp only [Option.bind_some]
    rw [if_pos (by decide), if_pos (by omega)]
    rw [number_eq _ (allB_drop (allB_take hl 32) 24) (by simp; omega) k (by omega)]
    simp only [Option.bind_some]
    rw [if_pos (by decide), if_pos (by omega)]
    rw [number_eq _ (allB_drop (allB_take hl 40) 32) (by simp; omega) k (by omega)]
    simp only [Option.bind_some]
    rw [if_pos (by decide), if_pos (by omega)]
    rw [number_eq _ (allB_drop (allB_take hl 44) 40) (by simp; omega) k (by omega)]
    simp only [Option.bind_some]
    rw [if_pos (by decide), if_pos (by omega)]
    rw [number_eq _ (allB_drop (allB_take hl 48) 44) (by simp; omega) k (by omega)]
    simp only [Option.bind_some]
    rw [if_pos (by decide), if_pos (by omega)]
    rw [number_eq _ (allB_drop (allB_take hl 56) 48) (by simp; omega) k (by omega)]
    simp only [Option.bind_some]
    rw [if_pos (by decide), if_pos (by omega)]
    rw [number_eq _ (allB_drop (allB_take hl 64) 56) (by simp; omega) k (by omega)]
    simp only [Option.bind_some]
    rw [n0, n1, n2, n3, n4, n5, n6, n7, n8, n9, mayhead_eq]
    simp only [Option.bind_some]
    have b := bytes_nums hl headSz 0 (by omega) sz_head (by rw [h64]; rfl)
    have z : (headNums l 0 headSz).zip headSz = headPs (getAns l 0 4).1 (getAns l 4 4).1 (getAns l 8 8).1 (getAns l 16 8).1 (getAns l 24 8).1 (getAns l 32 8).1 (getAns l 40 4).1 (getAns l 44 4).1 (getAns l 48 8).1 (getAns l 56 8).1 := rfl
    rw [z] at b
    by_cases ho : headOk (headPs (getAns l 0 4).1 (getAns l 4 4).1 (getAns l 8 8).1 (getAns l 16 8).1 (getAns l 24 8).1 (getAns l 32 8).1 (getAns l 40 4).1 (getAns l 44 4).1 (getAns l 48 8).1 (getAns l 56 8).1) = true
    · have hp : allPos (headNums l 0 headSz) = true := allPos_headOk _ ho
      rw [if_pos ho, if_pos hp]
      rfl
    · have hp : ¬ allPos (headNums l 0 headSz) = true := fun c => ho (b.2 c)
      rw [if_neg ho, if_neg hp]
      rfl
  · rw [if_neg h, if_neg (by omega)]
    rfl
end Go.Proofs.Ytdhkmaiidbomdab.Z
