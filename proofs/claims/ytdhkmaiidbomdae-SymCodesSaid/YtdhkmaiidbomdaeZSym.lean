/- What package sym tells of symbols, writes and reads; for any symbol, numbers and bytes, with enough rounds. -/
import Derived.Test.YtdhkmaiidbomdaeZSect
import Derived.Test.YtdhkmaiidbomdaePx3
import Derived.Test.YtdhkmaiidbomdaePx4
import Derived.Test.YtdhkmaiidbomdaePx6
namespace Go.Proofs.Ytdhkmaiidbomdae.Z
open Go.RowKit Go.Proofs.Ytdhkmaiidbomdae.P Go.Proofs.YtdhkmaiidbomdaeW.PrintWords Go.Proofs.YtdhkmaiidbomdaeW.PrintLast Go.Proofs.YtdhkmaiidbomdaeW.PrintMore
set_option linter.unusedSimpArgs false
set_option linter.unusedVariables false

theorem in_eq (n a b : Int) : sym_in.f n a b = some (decide (a ≤ n ∧ n ≤ b)) := by
  unfold sym_in.f
  by_cases h : n ≥ a
  · rw [if_pos h]
    congr 1
    apply decide_eq_decide.mpr
    omega
  · rw [if_neg h, decide_eq_false (by omega)]
theorem named_loop (s : ByteArray) (hs : s.size ≤ 9223372036854775807) (d : Nat) : ∀ (k i : Nat), i + d = s.size → d < k →
    sym_named.l0 k s (s.size : Int) (i : Int) = some (restIn s i) := by
  induction d with
  | zero =>
    intro k i hi hk
    obtain ⟨k, rfl⟩ : ∃ m, k = m + 1 := ⟨k - 1, by omega⟩
    simp only [sym_named.l0]
    rw [if_neg (by omega), restIn_end s i (by omega)]
  | succ d ih =>
    intro k i hi hk
    obtain ⟨k, rfl⟩ : ∃ m, k = m + 1 := ⟨k - 1, by omega⟩
    simp only [sym_named.l0]
    rw [if_pos (by omega), if_pos (by omega), if_pos (by omega), restIn_step s i (by omega)]
    by_cases h1 : bt s (i : Int) < 33
    · rw [if_pos h1, decide_eq_false (by omega)]
      rfl
    · rw [if_neg h1]
      by_cases h2 : bt s (i : Int) > 126
      · rw [if_pos h2, decide_eq_false (by omega)]
        rfl
      · rw [if_neg h2, decide_eq_true (by omega), Bool.true_and, wrap64_id (by omega) (by omega)]
        exact ih k (i + 1) (by omega) (by omega)
theorem named_eq (s : ByteArray) (hs : s.size ≤ 9223372036854775807) (k : Nat) (hk : s.size + 1 < k) : sym_named.f k s = some (nameOk s) := by
  obtain ⟨k, rfl⟩ : ∃ m, k = m + 1 := ⟨k - 1, by omega⟩
  unfold sym_named.f nameOk
  simp only [sym_named.j0]
  have hl : s.toList = s.data.toList := ByteArray.toList_eq s
  by_cases h0 : s.toList = []
  · have : s.size = 0 := by rw [← dlen, ← hl, h0]; rfl
    rw [if_pos h0, this]
    simp
  · have h1 : 1 ≤ s.size := by
      rcases Nat.eq_zero_or_pos s.size with h | h
      · exact absurd (by rw [hl]; exact List.eq_nil_of_length_eq_zero (by rw [dlen]; exact h)) h0
      · exact h
    rw [if_neg h0]
    by_cases h32 : (s.size : Int) > 32
    · rw [decide_eq_true h32, if_pos rfl, decide_eq_false (show ¬ (1 ≤ s.size ∧ s.size ≤ 32) by omega), Bool.and_false]
    · rw [decide_eq_false h32, if_neg (by simp), decide_eq_true (show 1 ≤ s.size ∧ s.size ≤ 32 by omega), Bool.and_true]
      exact named_loop s hs s.size k 0 (by omega) (by omega)
theorem bss_eq (n : Int) (k : Nat) (hk : 1 ≤ k) : sect_Check.f k (⟨#[46, 98, 115, 115]⟩ : ByteArray) n [] 0 = some (if alignOk n = true then 0 else 8) := by
  rw [check_eq _ _ _ _ (by decide) k hk]
  unfold sectAns
  have h1 : kindAns (⟨#[46, 98, 115, 115]⟩ : ByteArray).data.toList = (4, 0) := by decide +kernel
  have h2 : sizesOk 4 ([] : List Int).length 0 = true := by decide
  rw [h1, h2]
  simp
/-- May a symbol be, but for its name? -/
def standsOk (bind : Int) (hid : Bool) (whr val size sections : Int) : Bool :=
  if bind > 2 ∨ (hid = true ∧ bind = 0) then false
  else if whr = 0 then decide (val = 0 ∧ size = 0 ∧ bind ≠ 0)
  else if whr = -1 then decide (-2147483648 ≤ val ∧ val ≤ 4294967295 ∧ size = 0)
  else if whr = -2 then alignOk val && decide (1 ≤ size ∧ size ≤ 4096 ∧ bind = 1)
  else decide (1 ≤ whr ∧ whr ≤ sections ∧ 0 ≤ val ∧ val ≤ 4096 ∧ 0 ≤ size ∧ size ≤ 4096)
theorem stands_j0 (name : ByteArray) (bind : Int) (hid : Bool) (whr val size sections : Int) (b : Bool) (hb : b = decide (bind > 2 ∨ (hid = true ∧ bind = 0))) (k : Nat) (hk : 1 ≤ k) :
    sym_stands.j0 (k + 1) sections (bind == 0) b name bind hid whr val size = some (standsOk bind hid whr val size sections) := by
  subst hb
  simp only [sym_stands.j0, standsOk, in_eq, bss_eq _ k hk, Option.bind_some]
  by_cases h : bind > 2 ∨ (hid = true ∧ bind = 0)
  · rw [if_pos h, decide_eq_true h, if_pos rfl]
  · rw [if_neg h, decide_eq_false h, if_neg (by simp)]
    by_cases h0 : whr = 0
    · rw [if_pos h0, if_pos h0]
      by_cases hb : bind = 0
      · simp [hb]
      · have : (bind == 0) = false := beq_eq_false_iff_ne.mpr hb
        rw [this, if_neg (by simp)]
        by_cases hv : val = 0
        · by_cases hz : size = 0 <;> simp [hv, hz, hb]
        · simp [hv]
    · rw [if_neg h0, if_neg h0]
      by_cases h1 : whr = -1
      · rw [if_pos h1, if_pos h1]
        by_cases hv : -2147483648 ≤ val ∧ val ≤ 4294967295
        · rw [decide_eq_true hv, if_pos rfl]
          by_cases hz : size = 0 <;> simp [hv, hz]
        · rw [decide_eq_false hv, if_neg (by simp), decide_eq_false (by omega)]
      · rw [if_neg h1, if_neg h1]
        by_cases h2 : whr = -2
        · rw [if_pos h2, if_pos h2]
          cases ha : alignOk val
          · simp
          · simp only [if_true, Bool.true_and]
            by_cases hv : 1 ≤ size ∧ size ≤ 4096
            · rw [decide_eq_true hv, if_pos rfl]
              by_cases hz : bind = 1 <;> simp [hv, hz]
            · rw [decide_eq_false hv, if_neg (by simp), decide_eq_false (by omega)]
        · rw [if_neg h2, if_neg h2]
          by_cases hw : 1 ≤ whr ∧ whr ≤ sections
          · rw [decide_eq_true hw, if_pos rfl]
            by_cases hv : 0 ≤ val ∧ val ≤ 4096
            · rw [decide_eq_true hv, if_pos rfl]
              congr 1
              apply decide_eq_decide.mpr
              omega
            · rw [decide_eq_false hv, if_neg (by simp), decide_eq_false (by omega)]
          · rw [decide_eq_false hw, if_neg (by simp), decide_eq_false (by omega)]
theorem stands_eq (name : ByteArray) (bind : Int) (hid : Bool) (whr val size sections : Int) (k : Nat) (hk : 2 ≤ k) :
    sym_stands.f k name bind hid whr val size sections = some (standsOk bind hid whr val size sections) := by
  obtain ⟨k, rfl⟩ : ∃ m, k = m + 1 := ⟨k - 1, by omega⟩
  unfold sym_stands.f
  by_cases h : bind > 2
  · rw [if_pos h]
    exact stands_j0 _ _ _ _ _ _ _ _ (by rw [decide_eq_true h, decide_eq_true (show bind > 2 ∨ _ from .inl h)]) k (by omega)
  · rw [if_neg h]
    cases hid
    · rw [if_neg (by simp)]
      exact stands_j0 _ _ _ _ _ _ _ _ (by simp; omega) k (by omega)
    · rw [if_pos rfl]
      refine stands_j0 _ _ _ _ _ _ _ _ ?_ k (by omega)
      rw [Bool.eq_iff_iff, beq_iff_eq, decide_eq_true_iff]
      constructor
      · intro h2; exact .inr ⟨rfl, h2⟩
      · rintro (h2 | h2)
        · exact absurd h2 h
        · exact h2.2
/-- What is told of a symbol in an object of so many sections. -/
def symAns (name : ByteArray) (bind : Int) (hid : Bool) (whr val size sections : Int) : Int :=
  if 0 ≤ sections ∧ sections ≤ 16 then (if (nameOk name && standsOk bind hid whr val size sections) = true then 0 else 8) else 2
theorem symcheck_eq (name : ByteArray) (bind : Int) (hid : Bool) (whr val size sections : Int) (hs : name.size ≤ 9223372036854775807) (k : Nat) (hk : name.size + 2 < k) :
    sym_Check.f k name bind hid whr val size sections = some (symAns name bind hid whr val size sections) := by
  unfold sym_Check.f symAns
  rw [in_eq, named_eq name hs k (by omega), stands_eq _ _ _ _ _ _ _ k (by omega)]
  simp only [Option.bind_some]
  by_cases h : 0 ≤ sections ∧ sections ≤ 16
  · rw [decide_eq_true h, if_pos rfl, if_pos h]
    cases nameOk name <;> cases standsOk bind hid whr val size sections <;> rfl
  · rw [decide_eq_false h, if_neg (by simp), if_neg h]
/-- The number of a place: -1 is fff1, -2 fff2. -/
def whr16 (whr : Int) : Int := if whr < 0 then 65520 - whr else whr
def symBytes (bind : Int) (hid : Bool) (whr val size place : Int) : List Int :=
  bytesI (u64 place) 4 ++ ([bind * 16 % 256, if hid = true then 2 else 0] ++ bytesI (whr16 whr) 2) ++ bytesI (u64 val) 8 ++ bytesI (u64 size) 8
/-- What is written of a symbol whose name is at a place. -/
def symWriteAns (name : ByteArray) (bind : Int) (hid : Bool) (whr val size place : Int) : List Int × Int :=
  if symAns name bind hid whr val size 16 = 0 then (if 0 ≤ place ∧ place ≤ 65535 then (symBytes bind hid whr val size place, 0) else ([], 2)) else ([], symAns name bind hid whr val size 16)
theorem bytesI_two (x : Int) : bytesI x 2 = [x % 256, x / 256 % 256] := by
  rw [show (2 : Nat) = 0 + 1 + 1 from rfl, bytesI_succ, bytesI_succ]
  rfl
theorem put8 (n : Int) : putAns n 8 = (bytesI (u64 n) 8, 0) := putAns_yes ((putOk_iff n 8).2 ⟨by decide, .inl rfl⟩)
theorem put4 {n : Int} (h0 : 0 ≤ n) (h1 : n < 4294967296) : putAns n 4 = (bytesI (u64 n) 4, 0) := putAns_yes ((putOk_iff n 4).2 ⟨by decide, .inr ⟨h0, by simpa using h1⟩⟩)
theorem write_l0 (x : List Int) (val size : Int) (k : Nat) (hk : 20 ≤ k) (hx : x.length ≤ 100) :
    sym_Write.l0 k x [val, size] 2 0 = some (x ++ bytesI (u64 val) 8 ++ bytesI (u64 size) 8, 0) := by
  obtain ⟨k, rfl⟩ : ∃ m, k = m + 3 := ⟨k - 3, by omega⟩
  simp only [sym_Write.l0]
  rw [show wrap64 (0 + 1) = 1 by decide +kernel, show wrap64 (1 + 1) = 2 by decide +kernel]
  have r0 : rd [val, size] 0 = val := rfl
  have r1 : rd [val, size] 1 = size := rfl
  rw [r0, r1, put_eq _ _ _ (by omega), put_eq _ _ _ (by omega), put8, put8]
  simp only [Option.bind_some, List.length_cons, List.length_nil, List.length_append, bytesI_length]
  rw [if_pos (by decide), if_pos (by decide), if_pos (by decide), if_pos (by omega), if_pos (by decide), if_pos (by decide), if_pos (by decide), if_pos (by omega), if_neg (by decide)]
theorem wrapu16 (n : Int) : IntKind.u16.wrap n = n % 65536 := by simp [IntKind.wrap, IntKind.bits, IntKind.signed]
theorem write_j1 (x : List Int) (x9 x10 : Int) (name : ByteArray) (bind : Int) (hid : Bool) (whr val size : Int) (k : Nat) (hk : 21 ≤ k) (hx : x.length ≤ 50) :
    sym_Write.j1 k x x9 x10 name bind hid whr val size = some (x ++ ([bind * 16 % 256, x9] ++ bytesI x10 2) ++ bytesI (u64 val) 8 ++ bytesI (u64 size) 8, 0) := by
  obtain ⟨k, rfl⟩ : ∃ m, k = m + 1 := ⟨k - 1, by omega⟩
  simp only [sym_Write.j1, Option.bind_some]
  rw [if_pos (by simp; omega), bytesI_two]
  exact write_l0 _ val size k (by omega) (by simp; omega)
theorem write_j0 (x : List Int) (x9 : Int) (name : ByteArray) (bind : Int) (hid : Bool) (whr val size : Int) (k : Nat) (hk : 22 ≤ k) (hx : x.length ≤ 50) (hw : -2 ≤ whr ∧ whr ≤ 16) :
    sym_Write.j0 k x x9 name bind hid whr val size = some (x ++ ([bind * 16 % 256, x9] ++ bytesI (whr16 whr) 2) ++ bytesI (u64 val) 8 ++ bytesI (u64 size) 8, 0) := by
  obtain ⟨k, rfl⟩ : ∃ m, k = m + 1 := ⟨k - 1, by omega⟩
  simp only [sym_Write.j0, whr16, wrapu16]
  by_cases h : whr < 0
  · rw [if_pos h, if_pos h, write_j1 _ _ _ _ _ _ _ _ _ k (by omega) hx, wrap64_id (by omega) (by omega), show (65520 + -whr % 65536) % 65536 = 65520 - whr by omega]
  · rw [if_neg h, if_neg h, write_j1 _ _ _ _ _ _ _ _ _ k (by omega) hx, show whr % 65536 = whr by omega]
theorem symAns_two (name : ByteArray) (bind : Int) (hid : Bool) (whr val size sections : Int) : symAns name bind hid whr val size sections = 0 ∨ symAns name bind hid whr val size sections = 8 ∨ symAns name bind hid whr val size sections = 2 := by
  unfold symAns
  repeat' split
  · exact .inl rfl
  · exact .inr (.inl rfl)
  · exact .inr (.inr rfl)
theorem symAns_ok {name : ByteArray} {bind : Int} {hid : Bool} {whr val size sections : Int} (h : symAns name bind hid whr val size sections = 0) :
    (0 ≤ sections ∧ sections ≤ 16) ∧ nameOk name = true ∧ standsOk bind hid whr val size sections = true := by
  unfold symAns at h
  by_cases h1 : 0 ≤ sections ∧ sections ≤ 16
  · rw [if_pos h1] at h
    by_cases h2 : (nameOk name && standsOk bind hid whr val size sections) = true
    · exact ⟨h1, (Bool.and_eq_true _ _ ▸ h2 : _ ∧ _)⟩
    · rw [if_neg h2] at h
      exact absurd h (by decide)
  · rw [if_neg h1] at h
    exact absurd h (by decide)
/-- What a symbol that may be is. -/
theorem stands_parts {bind : Int} {hid : Bool} {whr val size sections : Int} (h : standsOk bind hid whr val size sections = true) :
    bind ≤ 2 ∧ ¬ (hid = true ∧ bind = 0) ∧ (whr = 0 ∧ val = 0 ∧ size = 0 ∧ bind ≠ 0 ∨ whr = -1 ∧ -2147483648 ≤ val ∧ val ≤ 4294967295 ∧ size = 0 ∨ whr = -2 ∧ alignOk val = true ∧ 1 ≤ size ∧ size ≤ 4096 ∧ bind = 1 ∨
      1 ≤ whr ∧ whr ≤ sections ∧ 0 ≤ val ∧ val ≤ 4096 ∧ 0 ≤ size ∧ size ≤ 4096) := by
  unfold standsOk at h
  by_cases h0 : bind > 2 ∨ (hid = true ∧ bind = 0)
  · rw [if_pos h0] at h; cases h
  · rw [if_neg h0] at h
    refine ⟨by omega, fun h => h0 (.inr h), ?_⟩
    by_cases h1 : whr = 0
    · rw [if_pos h1, decide_eq_true_iff] at h
      exact .inl ⟨h1, h⟩
    · rw [if_neg h1] at h
      by_cases h2 : whr = -1
      · rw [if_pos h2, decide_eq_true_iff] at h
        exact .inr (.inl ⟨h2, h⟩)
      · rw [if_neg h2] at h
        by_cases h3 : whr = -2
        · rw [if_pos h3, Bool.and_eq_true, decide_eq_true_iff] at h
          exact .inr (.inr (.inl ⟨h3, h⟩))
        · rw [if_neg h3, decide_eq_true_iff] at h
          exact .inr (.inr (.inr h))
theorem symwrite_eq (name : ByteArray) (bind : Int) (hid : Bool) (whr val size place : Int) (hs : name.size ≤ 9223372036854775807) (k : Nat) (hk : name.size + 30 < k) :
    sym_Write.f k name bind hid whr val size place = some (symWriteAns name bind hid whr val size place) := by
  unfold sym_Write.f symWriteAns
  rw [symcheck_eq _ _ _ _ _ _ _ hs k (by omega)]
  simp only [Option.bind_some, in_eq]
  by_cases h : symAns name bind hid whr val size 16 = 0
  · rw [if_pos h, if_pos h]
    have hw : -2 ≤ whr ∧ whr ≤ 16 := by
      have := (stands_parts (symAns_ok h).2.2).2.2
      omega
    by_cases hp : 0 ≤ place ∧ place ≤ 65535
    · rw [decide_eq_true hp, if_pos rfl, if_pos hp, put_eq _ _ _ (by omega), put4 hp.1 (by omega)]
      simp only [Option.bind_some]
      unfold symBytes
      cases hid
      · rw [if_neg (by simp), write_j0 _ _ _ _ _ _ _ _ k (by omega) (by simp [bytesI_length]) hw]
        simp
      · rw [if_pos rfl, write_j0 _ _ _ _ _ _ _ _ k (by omega) (by simp [bytesI_length]) hw]
        simp
    · rw [decide_eq_false hp, if_neg (by simp), if_neg hp]
  · rw [if_neg h, if_neg h]
theorem symBytes_length (bind : Int) (hid : Bool) (whr val size place : Int) : (symBytes bind hid whr val size place).length = 24 := by
  unfold symBytes
  simp [bytesI_length]
theorem symBytes_allB (bind : Int) (hid : Bool) (whr val size place : Int) : AllB (symBytes bind hid whr val size place) := by
  unfold symBytes
  refine allB_append (allB_append (allB_append (bytesI_allB _ _) (allB_append ?_ (bytesI_allB _ _))) (bytesI_allB _ _)) (bytesI_allB _ _)
  intro x hx
  simp only [List.mem_cons, List.not_mem_nil, or_false] at hx
  rcases hx with rfl | rfl
  · omega
  · cases hid <;> decide
end Go.Proofs.Ytdhkmaiidbomdae.Z
