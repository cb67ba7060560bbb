/- The reference of layer 10 tells, writes and reads the same as package sym; for any symbol, numbers and bytes, with enough rounds. -/
import Derived.Test.YtdhkmaiidbomdaeZSymRead
import Derived.Test.YtdhkmaiidbomdaeZRefB
import Derived.Test.YtdhkmaiidbomdaePx4
import Derived.Test.YtdhkmaiidbomdaePx5
import Derived.Test.YtdhkmaiidbomdaePx7
import Derived.Test.YtdhkmaiidbomdaePx8
namespace Go.Proofs.Ytdhkmaiidbomdae.Z
open Go.RowKit Go.Proofs.Ytdhkmaiidbomdae.P Go.Proofs.YtdhkmaiidbomdaeW.PrintWords Go.Proofs.YtdhkmaiidbomdaeW.PrintLast Go.Proofs.YtdhkmaiidbomdaeW.PrintMore
set_option linter.unusedSimpArgs false
set_option linter.unusedVariables false

theorem within_eq (n a b : Int) : quoinref10_within.f n a b = some (decide (a ≤ n ∧ n ≤ b)) := by
  unfold quoinref10_within.f
  by_cases h : n ≥ a
  · rw [if_pos h]
    congr 1
    apply decide_eq_decide.mpr
    omega
  · rw [if_neg h, decide_eq_false (by omega)]
theorem refstands_j0 (name : ByteArray) (bind : Int) (hid : Bool) (whr val size sections : Int) (b : Bool) (hb : b = decide (bind > 2 ∨ (hid = true ∧ bind = 0))) (k : Nat) (hk : 9 ≤ k) :
    quoinref10_Stands.j0 (k + 1) sections b name bind hid whr val size = some (standsOk bind hid whr val size sections) := by
  subst hb
  simp only [quoinref10_Stands.j0, standsOk, within_eq, mayalign_eq _ k hk, Option.bind_some]
  by_cases h : bind > 2 ∨ (hid = true ∧ bind = 0)
  · rw [if_pos h, decide_eq_true h, if_pos rfl]
  · rw [if_neg h, decide_eq_false h, if_neg (by simp)]
    by_cases h0 : whr = 0
    · rw [if_pos h0, if_pos h0]
      by_cases hv : val = 0
      · by_cases hz : size = 0
        · by_cases hb : bind = 0 <;> simp [hv, hz, hb]
        · simp [hv, hz]
      · simp [hv]
    · rw [if_neg h0, if_neg h0]
      by_cases h1 : whr = -1
      · rw [if_pos h1, if_pos h1]
        by_cases hv : -2147483648 ≤ val ∧ val ≤ 4294967295
        · rw [decide_eq_true hv, if_pos rfl]
          by_cases hz : size = 0 <;> simp [hv, hz]
        · rw [decide_eq_false hv, if_neg (by simp), decide_eq_false (by omega)]
      · rw [if_neg h1, if_neg h1]
        by_cases h2 : whr = -2
        · rw [if_pos h2, if_pos h2]
          cases ha : alignOk val
          · simp
          · simp only [if_true, Bool.true_and]
            by_cases hv : 1 ≤ size ∧ size ≤ 4096
            · rw [decide_eq_true hv, if_pos rfl]
              by_cases hz : bind = 1 <;> simp [hv, hz]
            · rw [decide_eq_false hv, if_neg (by simp), decide_eq_false (by omega)]
        · rw [if_neg h2, if_neg h2]
          by_cases hw : 1 ≤ whr ∧ whr ≤ sections
          · rw [decide_eq_true hw, if_pos rfl]
            by_cases hv : 0 ≤ val ∧ val ≤ 4096
            · rw [decide_eq_true hv, if_pos rfl]
              by_cases hz : 0 ≤ size ∧ size ≤ 4096
              · rw [decide_eq_true hz, decide_eq_true (by omega)]
              · rw [decide_eq_false hz, decide_eq_false (by omega)]
            · rw [decide_eq_false hv, if_neg (by simp), decide_eq_false (by omega)]
          · rw [decide_eq_false hw, if_neg (by simp), decide_eq_false (by omega)]
theorem refstands_eq (name : ByteArray) (bind : Int) (hid : Bool) (whr val size sections : Int) (k : Nat) (hk : 10 ≤ k) :
    quoinref10_Stands.f k name bind hid whr val size sections = some (standsOk bind hid whr val size sections) := by
  obtain ⟨k, rfl⟩ : ∃ m, k = m + 1 := ⟨k - 1, by omega⟩
  unfold quoinref10_Stands.f
  by_cases h : bind > 2
  · rw [if_pos h]
    exact refstands_j0 _ _ _ _ _ _ _ _ (by rw [decide_eq_true (show bind > 2 ∨ _ from .inl h)]) k (by omega)
  · rw [if_neg h]
    cases hid
    · rw [if_neg (by simp)]
      exact refstands_j0 _ _ _ _ _ _ _ _ (by simp; omega) k (by omega)
    · rw [if_pos rfl]
      refine refstands_j0 _ _ _ _ _ _ _ _ ?_ k (by omega)
      rw [Bool.eq_iff_iff, beq_iff_eq, decide_eq_true_iff]
      constructor
      · intro h2; exact .inr ⟨rfl, h2⟩
      · rintro (h2 | h2)
        · exact absurd h2 h
        · exact h2.2
theorem refsymmay_eq (name : ByteArray) (bind : Int) (hid : Bool) (whr val size sections : Int) (hs : name.size ≤ 9223372036854775807) (k : Nat) (hk : name.size + 10 < k) :
    quoinref10_May.f k name bind hid whr val size sections = some (nameOk name && standsOk bind hid whr val size sections) := by
  unfold quoinref10_May.f
  rw [mayname_eq name hs k (by omega), refstands_eq _ _ _ _ _ _ _ k (by omega)]
  simp only [Option.bind_some]
  cases nameOk name <;> simp
theorem refsymcheck_eq (name : ByteArray) (bind : Int) (hid : Bool) (whr val size sections : Int) (hs : name.size ≤ 9223372036854775807) (k : Nat) (hk : name.size + 10 < k) :
    quoinref10_Check.f k name bind hid whr val size sections = some (symAns name bind hid whr val size sections) := by
  unfold quoinref10_Check.f symAns
  rw [within_eq, refsymmay_eq _ _ _ _ _ _ _ hs k hk]
  simp only [Option.bind_some]
  by_cases h : 0 ≤ sections ∧ sections ≤ 16
  · rw [decide_eq_true h, if_pos rfl, if_pos h]
    cases (nameOk name && standsOk bind hid whr val size sections) <;> rfl
  · rw [decide_eq_false h, if_neg (by simp), if_neg h]
theorem refbytes_two (x : Int) (k : Nat) (hk : 9 ≤ k) : quoinref07_Bytes.f k x 2 = some (bytesI (u64 x) 2) := refbytes_eq x 2 k (by omega) (by omega)
theorem refbytes_four (x : Int) (k : Nat) (hk : 9 ≤ k) : quoinref07_Bytes.f k x 4 = some (bytesI (u64 x) 4) := refbytes_eq x 4 k (by omega) (by omega)
theorem refbytes_eight (x : Int) (k : Nat) (hk : 9 ≤ k) : quoinref07_Bytes.f k x 8 = some (bytesI (u64 x) 8) := refbytes_eq x 8 k (by omega) (by omega)
theorem refsymbytes_j1 (place w o : Int) (name : ByteArray) (bind : Int) (hid : Bool) (whr val size : Int) (hw : u64 w = whr16 whr) (ho : o = if hid = true then 2 else 0) (k : Nat) (hk : 10 ≤ k) :
    quoinref10_Bytes.j1 k place w o name bind hid whr val size = some (symBytes bind hid whr val size place) := by
  obtain ⟨k, rfl⟩ : ∃ m, k = m + 1 := ⟨k - 1, by omega⟩
  subst ho
  simp only [quoinref10_Bytes.j1, refbytes_two _ k (by omega), refbytes_four _ k (by omega), refbytes_eight _ k (by omega), Option.bind_some, List.length_append, bytesI_length, List.length_cons, List.length_nil, hw]
  rw [if_pos (by decide), if_pos (by decide), if_pos (by decide), if_pos (by decide)]
  unfold symBytes
  rw [show 16 * bind = bind * 16 by omega, show (if hid = true then (2 : Int) else 0) % 256 = if hid = true then 2 else 0 by cases hid <;> decide]
  simp only [List.append_assoc]
theorem refsymbytes_j0 (place w : Int) (name : ByteArray) (bind : Int) (hid : Bool) (whr val size : Int) (hw : u64 w = whr16 whr) (k : Nat) (hk : 11 ≤ k) :
    quoinref10_Bytes.j0 k place w name bind hid whr val size = some (symBytes bind hid whr val size place) := by
  obtain ⟨k, rfl⟩ : ∃ m, k = m + 1 := ⟨k - 1, by omega⟩
  simp only [quoinref10_Bytes.j0]
  cases hid
  · rw [if_neg (by simp), refsymbytes_j1 _ _ _ _ _ _ _ _ _ hw (by simp) k (by omega)]
  · rw [if_pos rfl, refsymbytes_j1 _ _ _ _ _ _ _ _ _ hw (by simp) k (by omega)]
theorem refsymbytes_eq (name : ByteArray) (bind : Int) (hid : Bool) (whr val size place : Int) (hw : -2 ≤ whr ∧ whr ≤ 16) (k : Nat) (hk : 11 ≤ k) :
    quoinref10_Bytes.f k name bind hid whr val size place = some (symBytes bind hid whr val size place) := by
  unfold quoinref10_Bytes.f
  by_cases h1 : whr = -1
  · rw [if_pos h1, refsymbytes_j0 _ _ _ _ _ _ _ _ (by rw [h1]; decide +kernel) k hk]
  · rw [if_neg h1]
    by_cases h2 : whr = -2
    · rw [if_pos h2, refsymbytes_j0 _ _ _ _ _ _ _ _ (by rw [h2]; decide +kernel) k hk]
    · rw [if_neg h2, refsymbytes_j0 _ _ _ _ _ _ _ _ (by unfold whr16; rw [if_neg (by omega), u64_id (by omega) (by omega)]) k hk]
theorem stands_whr {bind : Int} {hid : Bool} {whr val size : Int} (h : standsOk bind hid whr val size 16 = true) : -2 ≤ whr ∧ whr ≤ 16 := by
  have := (stands_parts h).2.2
  omega
theorem refsymwrite_eq (name : ByteArray) (bind : Int) (hid : Bool) (whr val size place : Int) (hs : name.size ≤ 9223372036854775807) (k : Nat) (hk : name.size + 30 < k) :
    quoinref10_Write.f k name bind hid whr val size place = some (symWriteAns name bind hid whr val size place) := by
  unfold quoinref10_Write.f
  rw [refsymmay_eq _ _ _ _ _ _ _ hs k (by omega), within_eq]
  simp only [Option.bind_some]
  cases hn : nameOk name
  · rw [Bool.false_and, if_neg (by simp)]
    have : symAns name bind hid whr val size 16 = 8 := by unfold symAns; rw [if_pos (by decide), hn]; rfl
    unfold symWriteAns
    rw [this, if_neg (by decide)]
  · rw [Bool.true_and, write_named hn]
    by_cases h : standsOk bind hid whr val size 16 = true
    · rw [if_pos h, if_pos h]
      by_cases hp : 0 ≤ place ∧ place ≤ 65535
      · rw [decide_eq_true hp, if_pos rfl, if_pos hp, refsymbytes_eq _ _ _ _ _ _ _ (stands_whr h) k (by omega)]
        rfl
      · rw [decide_eq_false hp, if_neg (by simp), if_neg hp]
    · rw [if_neg h, if_neg h]
theorem refread_tail (l : List Int) (hl : AllB l) (w : Int) (h24 : l.length = 24) (hw : standsOk (symBind l) (symHid l) w (symVal l) (symSize l) 16 = true → w = symWhr l)
    (hw2 : standsOk (symBind l) (symHid l) (symWhr l) (symVal l) (symSize l) 16 = true → w = symWhr l) (k : Nat) (hk : 50 ≤ k) :
    quoinref10_Read.j0 k l (⟨#[]⟩ : ByteArray) (symBind l) (symHid l) w (symVal l) (symSize l) = some (symReadAns l) := by
  obtain ⟨k, rfl⟩ : ∃ m, k = m + 1 := ⟨k - 1, by omega⟩
  simp only [quoinref10_Read.j0]
  have e0 : wrap64 (numI (l.take 4)) = symName l := by
    unfold symName getAns
    rw [if_pos (by decide), if_pos (by omega)]
    rfl
  rw [if_pos (by omega), number_eq _ (allB_take hl 4) (by simp; omega) k (by omega)]
  simp only [Option.bind_some, e0, within_eq]
  unfold symReadAns
  rw [if_pos h24]
  by_cases hp : 0 ≤ symName l ∧ symName l ≤ 65535
  · rw [decide_eq_true hp, if_pos rfl, refstands_eq _ _ _ _ _ _ _ k (by omega)]
    simp only [Option.bind_some]
    by_cases hs : standsOk (symBind l) (symHid l) w (symVal l) (symSize l) 16 = true
    · have e := hw hs
      subst e
      rw [if_pos hs, refsymbytes_eq _ _ _ _ _ _ _ (stands_whr hs) k (by omega)]
      simp only [Option.bind_some]
      by_cases hb : symBytes (symBind l) (symHid l) (symWhr l) (symVal l) (symSize l) (symName l) = l
      · rw [if_pos (show symFits l from ⟨hs, hp, hb⟩), hb, if_pos rfl]
      · have hsn : ¬ ((strOfNums (symBytes (symBind l) (symHid l) (symWhr l) (symVal l) (symSize l) (symName l))).toList = (strOfNums l).toList) := fun h => hb (str_inj (symBytes_allB _ _ _ _ _ _) hl h)
        rw [if_neg (show ¬ symFits l from fun h => hb h.2.2), if_neg hsn]
    · rw [if_neg hs, if_neg (show ¬ symFits l from fun h => hs (by rw [hw2 h.1]; exact h.1))]
  · rw [decide_eq_false hp, if_neg (by simp), if_neg (show ¬ symFits l from fun h => hp h.2.1)]
theorem stands_no {bind : Int} {hid : Bool} {whr val size : Int} (h : ¬ (-2 ≤ whr ∧ whr ≤ 16)) (e : standsOk bind hid whr val size 16 = true) : False := h (stands_whr e)
theorem refsymread_eq (l : List Int) (hl : AllB l) (k : Nat) (hk : 51 ≤ k) : quoinref10_Read.f k l = some (symReadAns l) := by
  unfold quoinref10_Read.f
  by_cases h : (l.length : Int) = 24
  · have h24 : l.length = 24 := by omega
    have hr := get2_range h24 hl
    have eb : Int.tdiv (rd l 4) 16 % 256 = symBind l := by
      have := get_at h24 4 (by omega) hl
      have h4 : (0 : Int) ≤ rd l 4 ∧ rd l 4 < 256 := this
      unfold symBind
      rw [Int.tdiv_eq_ediv_of_nonneg h4.1]
      omega
    have eh : (rd l 5 == 2) = symHid l := rfl
    have e6 : wrap64 (numI ((l.take 8).drop 6)) = (getAns l 6 2).1 := by
      unfold getAns
      rw [if_pos (by decide), if_pos (by omega), List.drop_take]
      rfl
    have e8 : wrap64 (numI ((l.take 16).drop 8)) = symVal l := by
      unfold symVal getAns
      rw [if_pos (by decide), if_pos (by omega), List.drop_take]
      rfl
    have e16 : wrap64 (numI ((l.take 24).drop 16)) = symSize l := by
      unfold symSize getAns
      rw [if_pos (by decide), if_pos (by omega), List.drop_take]
      rfl
    rw [if_pos h, if_pos (by omega), if_pos (by omega), if_pos (by decide), if_pos (by omega), number_eq _ (allB_drop (allB_take hl 8) 6) (by simp; omega) k (by omega)]
    simp only [Option.bind_some]
    rw [if_pos (by decide), if_pos (by omega), number_eq _ (allB_drop (allB_take hl 16) 8) (by simp; omega) k (by omega)]
    simp only [Option.bind_some]
    rw [if_pos (by decide), if_pos (by omega), number_eq _ (allB_drop (allB_take hl 24) 16) (by simp; omega) k (by omega)]
    simp only [Option.bind_some]
    rw [e6, e8, e16, eb, eh]
    by_cases h1 : (getAns l 6 2).1 = 65521
    · have ew : (-1 : Int) = symWhr l := by unfold symWhr; rw [if_pos (by omega), h1]; rfl
      rw [if_pos h1]
      exact refread_tail l hl _ h24 (fun _ => ew) (fun _ => ew) k (by omega)
    · rw [if_neg h1]
      by_cases h2 : (getAns l 6 2).1 = 65522
      · have ew : (-2 : Int) = symWhr l := by unfold symWhr; rw [if_pos (by omega), h2]; rfl
        rw [if_pos h2]
        exact refread_tail l hl _ h24 (fun _ => ew) (fun _ => ew) k (by omega)
      · rw [if_neg h2]
        by_cases h3 : (getAns l 6 2).1 > 65520
        · refine refread_tail l hl _ h24 (fun e => (stands_no (by omega) e).elim) (fun e => (stands_no ?_ e).elim) k (by omega)
          unfold symWhr
          rw [if_pos h3]
          omega
        · have ew : (getAns l 6 2).1 = symWhr l := by unfold symWhr; rw [if_neg h3]
          exact refread_tail l hl _ h24 (fun _ => ew) (fun _ => ew) k (by omega)
  · rw [if_neg h]
    unfold symReadAns
    rw [if_neg (by omega)]
end Go.Proofs.Ytdhkmaiidbomdae.Z
