/- What package sym reads; for any bytes, with enough rounds. -/
import Derived.Test.YtdhkmaiidbomdaeZSymAlive
import Derived.Test.YtdhkmaiidbomdaePx6
namespace Go.Proofs.Ytdhkmaiidbomdae.Z
open Go.RowKit Go.Proofs.Ytdhkmaiidbomdae.P Go.Proofs.YtdhkmaiidbomdaeW.PrintWords Go.Proofs.YtdhkmaiidbomdaeW.PrintLast Go.Proofs.YtdhkmaiidbomdaeW.PrintMore
set_option linter.unusedSimpArgs false
set_option linter.unusedVariables false

def symName (l : List Int) : Int := (getAns l 0 4).1
def symBind (l : List Int) : Int := rd l 4 / 16
def symHid (l : List Int) : Bool := rd l 5 == 2
def symWhr (l : List Int) : Int := if (getAns l 6 2).1 > 65520 then 65520 - (getAns l 6 2).1 else (getAns l 6 2).1
def symVal (l : List Int) : Int := (getAns l 8 8).1
def symSize (l : List Int) : Int := (getAns l 16 8).1
/-- Are these the bytes of a symbol? -/
def symFits (l : List Int) : Prop := standsOk (symBind l) (symHid l) (symWhr l) (symVal l) (symSize l) 16 = true ∧ (0 ≤ symName l ∧ symName l ≤ 65535) ∧ symBytes (symBind l) (symHid l) (symWhr l) (symVal l) (symSize l) (symName l) = l
instance (l : List Int) : Decidable (symFits l) := inferInstanceAs (Decidable (_ ∧ _ ∧ _))
/-- What is read: the symbol's parts, its name's place, and the error. -/
def symReadAns (l : List Int) : ByteArray × Int × Bool × Int × Int × Int × Int × Int :=
  if l.length = 24 then (if symFits l then ((⟨#[]⟩ : ByteArray), symBind l, symHid l, symWhr l, symVal l, symSize l, symName l, 0) else ((⟨#[]⟩ : ByteArray), 0, false, 0, 0, 0, 0, 8)) else ((⟨#[]⟩ : ByteArray), 0, false, 0, 0, 0, 0, 3)
theorem x_ok : nameOk (⟨#[120]⟩ : ByteArray) = true := by decide +kernel
theorem any_ok : nameOk (⟨#[97, 110, 121]⟩ : ByteArray) = true := by decide +kernel
theorem write_named {name : ByteArray} (hn : nameOk name = true) (bind : Int) (hid : Bool) (whr val size place : Int) :
    symWriteAns name bind hid whr val size place = if standsOk bind hid whr val size 16 = true then (if 0 ≤ place ∧ place ≤ 65535 then (symBytes bind hid whr val size place, 0) else ([], 2)) else ([], 8) := by
  unfold symWriteAns symAns
  rw [if_pos (show (0 : Int) ≤ 16 ∧ (16 : Int) ≤ 16 by decide), hn, Bool.true_and]
  cases standsOk bind hid whr val size 16 <;> rfl
theorem read_tail (l : List Int) (hl : AllB l) (w : Int) (hw : w = symWhr l) (name : ByteArray) (h24 : l.length = 24) (k : Nat) (hk : 50 ≤ k) :
    sym_Read.j0 k l (symName l) name (symBind l) (symHid l) w 0 0 = some (symReadAns l) := by
  obtain ⟨k, rfl⟩ : ∃ m, k = m + 1 := ⟨k - 1, by omega⟩
  subst hw
  simp only [sym_Read.j0]
  rw [get_eq _ _ _ _ (by omega) hl (by omega) (by decide), get_eq _ _ _ _ (by omega) hl (by omega) (by decide)]
  simp only [Option.bind_some]
  have e1 : (getAns l 8 8).1 = symVal l := rfl
  have e2 : (getAns l 16 8).1 = symSize l := rfl
  rw [e1, e2, symwrite_eq _ _ _ _ _ _ _ (by decide) _ (by have : (⟨#[120]⟩ : ByteArray).size = 1 := rfl; omega), write_named x_ok]
  simp only [Option.bind_some]
  unfold symReadAns
  rw [if_pos h24]
  by_cases hs : standsOk (symBind l) (symHid l) (symWhr l) (symVal l) (symSize l) 16 = true
  · rw [if_pos hs]
    by_cases hp : 0 ≤ symName l ∧ symName l ≤ 65535
    · rw [if_pos hp]
      simp only [if_true]
      by_cases hb : symBytes (symBind l) (symHid l) (symWhr l) (symVal l) (symSize l) (symName l) = l
      · rw [if_pos (show symFits l from ⟨hs, hp, hb⟩), hb, if_pos rfl]
      · have hsn : ¬ ((strOfNums (symBytes (symBind l) (symHid l) (symWhr l) (symVal l) (symSize l) (symName l))).toList = (strOfNums l).toList) := fun h => hb (str_inj (symBytes_allB _ _ _ _ _ _) hl h)
        rw [if_neg (show ¬ symFits l from fun h => hb h.2.2), if_neg hsn]
    · rw [if_neg hp, if_neg (show ¬ symFits l from fun h => hp h.2.1)]
      rfl
  · rw [if_neg hs, if_neg (show ¬ symFits l from fun h => hs h.1)]
    rfl
theorem get_at {l : List Int} (h24 : l.length = 24) (i : Nat) (hi : i < 24) (hl : AllB l) : 0 ≤ rd l (i : Int) ∧ rd l (i : Int) < 256 := by
  unfold rd
  rw [Int.toNat_natCast, List.getD_eq_getElem?_getD, List.getElem?_eq_getElem (by omega)]
  exact hl _ (List.getElem_mem _)
theorem get2_range {l : List Int} (h24 : l.length = 24) (hl : AllB l) : 0 ≤ (getAns l 6 2).1 ∧ (getAns l 6 2).1 < 65536 := by
  unfold getAns
  rw [if_pos (by decide), if_pos (by omega)]
  have hr := numI_range ((l.drop 6).take 2) (allB_take (allB_drop hl 6) 2)
  have : ((l.drop 6).take 2).length = 2 := by simp; omega
  rw [this] at hr
  show 0 ≤ wrap64 (numI ((l.drop 6).take 2)) ∧ wrap64 (numI ((l.drop 6).take 2)) < 65536
  rw [wrap64_id (by omega) (by omega)]
  simpa using hr
theorem symread_eq (l : List Int) (hl : AllB l) (k : Nat) (hk : 51 ≤ k) : sym_Read.f k l = some (symReadAns l) := by
  unfold sym_Read.f
  by_cases h : (l.length : Int) = 24
  · have h24 : l.length = 24 := by omega
    rw [if_pos h, get_eq _ _ _ _ (by omega) hl (by omega) (by decide)]
    simp only [Option.bind_some]
    rw [if_pos (by omega), if_pos (by omega), get_eq _ _ _ _ (by omega) hl (by omega) (by decide)]
    simp only [Option.bind_some]
    have hr := get2_range h24 hl
    by_cases hw : (getAns l 6 2).1 > 65520
    · rw [if_pos hw]
      exact read_tail l hl _ (by unfold symWhr; rw [if_pos hw, wrap64_id (by omega) (by omega)]) _ h24 k (by omega)
    · rw [if_neg hw]
      exact read_tail l hl _ (by unfold symWhr; rw [if_neg hw]) _ h24 k (by omega)
  · rw [if_neg h]
    unfold symReadAns
    rw [if_neg (by omega)]
/-- What is written is read. -/
theorem symread_write {bind : Int} {hid : Bool} {whr val size place : Int} (hb : 0 ≤ bind) (hs : standsOk bind hid whr val size 16 = true) (hp : 0 ≤ place ∧ place ≤ 65535)
    (hv : -9223372036854775808 ≤ val ∧ val ≤ 9223372036854775807) (hz : -9223372036854775808 ≤ size ∧ size ≤ 9223372036854775807) :
    symReadAns (symBytes bind hid whr val size place) = ((⟨#[]⟩ : ByteArray), bind, hid, whr, val, size, place, 0) := by
  have q := stands_parts hs
  have hw : -2 ≤ whr ∧ whr ≤ 16 := by have := q.2.2; omega
  have hw16 : 0 ≤ whr16 whr ∧ whr16 whr < 65536 := by unfold whr16; split <;> omega
  have e1 : symName (symBytes bind hid whr val size place) = place := by
    unfold symName symBytes
    have := get_put (n := place) (s := 4) [] (([bind * 16 % 256, if hid = true then 2 else 0] ++ bytesI (whr16 whr) 2) ++ bytesI (u64 val) 8 ++ bytesI (u64 size) 8) ((putOk_iff _ _).2 ⟨by decide, .inr ⟨by omega, by simp; omega⟩⟩) (by omega) (by omega)
    simp only [List.nil_append, List.length_nil, List.append_assoc, show Int.toNat 2 = 2 from rfl, show Int.toNat 4 = 4 from rfl, show Int.toNat 8 = 8 from rfl] at this ⊢
    exact congrArg Prod.fst this
  have e3 : (getAns (symBytes bind hid whr val size place) 6 2).1 = whr16 whr := by
    unfold symBytes
    have := get_put (n := whr16 whr) (s := 2) (bytesI (u64 place) 4 ++ [bind * 16 % 256, if hid = true then 2 else 0]) (bytesI (u64 val) 8 ++ bytesI (u64 size) 8) ((putOk_iff _ _).2 ⟨by decide, .inr ⟨by omega, by simp; omega⟩⟩) (by omega) (by omega)
    rw [u64_id (n := whr16 whr) (by omega) (by omega)] at this
    simp only [List.length_append, bytesI_length, List.length_cons, List.length_nil, List.append_assoc, show Int.toNat 2 = 2 from rfl, show Int.toNat 4 = 4 from rfl, show Int.toNat 8 = 8 from rfl] at this ⊢
    exact congrArg Prod.fst this
  have e4 : symVal (symBytes bind hid whr val size place) = val := by
    unfold symVal symBytes
    have := get_put (n := val) (s := 8) (bytesI (u64 place) 4 ++ ([bind * 16 % 256, if hid = true then 2 else 0] ++ bytesI (whr16 whr) 2)) (bytesI (u64 size) 8) ((putOk_iff _ _).2 ⟨by decide, .inl rfl⟩) hv.1 hv.2
    simp only [List.length_append, bytesI_length, List.length_cons, List.length_nil, List.append_assoc, show Int.toNat 2 = 2 from rfl, show Int.toNat 4 = 4 from rfl, show Int.toNat 8 = 8 from rfl] at this ⊢
    exact congrArg Prod.fst this
  have e5 : symSize (symBytes bind hid whr val size place) = size := by
    unfold symSize symBytes
    have := get_put (n := size) (s := 8) (bytesI (u64 place) 4 ++ ([bind * 16 % 256, if hid = true then 2 else 0] ++ bytesI (whr16 whr) 2) ++ bytesI (u64 val) 8) [] ((putOk_iff _ _).2 ⟨by decide, .inl rfl⟩) hz.1 hz.2
    simp only [List.length_append, bytesI_length, List.length_cons, List.length_nil, List.append_nil, List.append_assoc, show Int.toNat 2 = 2 from rfl, show Int.toNat 4 = 4 from rfl, show Int.toNat 8 = 8 from rfl] at this ⊢
    exact congrArg Prod.fst this
  have r4 : rd (symBytes bind hid whr val size place) 4 = bind * 16 % 256 := by
    unfold symBytes rd
    simp only [List.append_assoc]
    rw [List.getD_eq_getElem?_getD, List.getElem?_append_right (by simp [bytesI_length])]
    simp [bytesI_length]
  have r5 : rd (symBytes bind hid whr val size place) 5 = if hid = true then 2 else 0 := by
    unfold symBytes rd
    simp only [List.append_assoc]
    rw [List.getD_eq_getElem?_getD, List.getElem?_append_right (by simp [bytesI_length])]
    simp [bytesI_length]
  have eb : symBind (symBytes bind hid whr val size place) = bind := by
    unfold symBind
    rw [r4]
    omega
  have eh : symHid (symBytes bind hid whr val size place) = hid := by
    unfold symHid
    rw [r5]
    cases hid <;> rfl
  have ew : symWhr (symBytes bind hid whr val size place) = whr := by
    unfold symWhr
    rw [e3]
    unfold whr16
    by_cases c : whr < 0
    · rw [if_pos c, if_pos (by omega)]; omega
    · rw [if_neg c, if_neg (by omega)]
  unfold symReadAns
  rw [if_pos (symBytes_length _ _ _ _ _ _), if_pos (show symFits _ by unfold symFits; rw [e1, eb, eh, ew, e4, e5]; exact ⟨hs, hp, rfl⟩), e1, eb, eh, ew, e4, e5]
end Go.Proofs.Ytdhkmaiidbomdae.Z
