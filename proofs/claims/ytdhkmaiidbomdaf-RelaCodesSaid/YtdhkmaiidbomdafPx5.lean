-- Written by pext.py, a program of this session, over the kit's print: a function's contract
import Derived.Test.YtdhkmaiidbomdafPx0
import Derived.Test.YtdhkmaiidbomdafPx4
namespace Go.Proofs.Ytdhkmaiidbomdaf.P
open Go.RowKit Go.Proofs.YtdhkmaiidbomdafW.PrintWords Go.Proofs.YtdhkmaiidbomdafW.PrintLast Go.Proofs.YtdhkmaiidbomdafW.PrintMore
attribute [local go_sem] max2_int min2_int max_two min_two max_three min_three max_four min_four   -- for this text's walks alone
set_option linter.unusedVariables false
set_option linter.unusedSimpArgs false


/-! ### sect_Kind: function 26 -/
/-- strings.IndexFunc at a predicate on runes, from place pos on, by at most so many runes. -/
def idxF (p : Nat → Bool) (s : ByteArray) : Nat → Nat → Int
  | 0, _ => -1
  | f + 1, pos => if pos < s.size then (if p (Utf8.decode s pos).1 = true then (pos : Int) else idxF p s f (pos + (Utf8.decode s pos).2)) else -1
theorem idxF_end (p : Nat → Bool) (s : ByteArray) (f pos : Nat) (h : ¬ pos < s.size) : idxF p s f pos = -1 := by cases f <;> simp [idxF, h]
def oddR (r : Nat) : Bool := decide (r < 33) || decide (126 < r)
theorem oddR_yes {r : Nat} (h : r < 33 ∨ 126 < r) : oddR r = true := by simp [oddR]; exact h
theorem oddR_no {r : Nat} (h : ¬ (r < 33 ∨ 126 < r)) : oddR r = false := by simp [oddR]; omega
theorem odd_calls (r : Nat) (w : World) : Calls Try.prog 33 #[.int .i32 (r : Int)] w fun e w' => e = .returned (.bool (oddR r)) ∧ w' = w := by
  by_cases h1 : r < 33
  · have f1 : decide ((r : Int) < 33) = true := decide_eq_true (by omega)
    rw [oddR_yes (.inl h1)]
    go_enter Try.func33, Try.ntmps33
    go_wp2
    go_ret
    exact ⟨rfl, rfl⟩
  · have f1 : decide ((r : Int) < 33) = false := decide_eq_false (by omega)
    by_cases h2 : 126 < r
    · have f2 : decide (126 < (r : Int)) = true := decide_eq_true (by omega)
      rw [oddR_yes (.inr h2)]
      go_enter Try.func33, Try.ntmps33
      go_wp2
      go_ret
      exact ⟨rfl, rfl⟩
    · have f2 : decide (126 < (r : Int)) = false := decide_eq_false (by omega)
      rw [oddR_no (by omega)]
      go_enter Try.func33, Try.ntmps33
      go_wp2
      go_ret
      exact ⟨rfl, rfl⟩
set_option maxHeartbeats 2000000 in
set_option maxRecDepth 1000000 in
theorem indexFunc_odd (s : ByteArray) (w : World) :
    Calls Try.prog 41 #[.string s, .func (.func 33) #[] #[], .bool true] w fun e w' => e = .returned (.int .i64 (idxF oddR s s.size 0)) ∧ Below w.heap.size w w' := by
  go_enter Try.func41, Try.ntmps41
  go_wp2
  go_loopg [] s.size (fun gf wx => ∃ pos : Nat, wx.heap[w.heap.size]? = some (.stringIter s pos) ∧ Below w.heap.size w wx ∧ idxF oddR s gf pos = idxF oddR s s.size 0 ∧ s.size ≤ pos + gf)
  case atStart => exact ⟨0, World.iter_heap w s 0, (Below.refl _ w).alloc (Nat.le_refl _) _, rfl, by omega⟩
  case round =>
    obtain ⟨pos, hit, hbw, hleft, hfu⟩ := hrel
    by_cases hps : pos < s.size
    · obtain ⟨g', rfl⟩ : ∃ g', gk = g' + 1 := ⟨gk - 1, by omega⟩
      have hnx : ∀ ty, (Instr.next (.pointer (some ⟨w.heap.size, 0, none⟩)) true ty).run Try.prog wr = _ := fun ty => Lib.run_next_any_at wr w.heap.size s pos ty hit hps
      have hwd := Lib.width_pos s pos
      obtain ⟨R, hR⟩ : ∃ R, (Utf8.decode s pos).1 = R := ⟨_, rfl⟩
      obtain ⟨K, hK⟩ : ∃ K, (Utf8.decode s pos).2 = K := ⟨_, rfl⟩
      simp only [idxF, hps, if_true, hR, hK] at hleft
      rw [hR, hK] at hnx
      rw [hK] at hwd
      have hit2 := Lib.iterAt_heap wr w.heap.size s pos (pos + K) hit
      have hbw2 := Lib.below_iterAt hbw (k := w.heap.size) (Nat.le_refl _) s (pos + K)
      obtain ⟨W, hWd⟩ : ∃ W, wr.iterAt w.heap.size s (pos + K) = W := ⟨_, rfl⟩
      rw [hWd] at hnx hit2 hbw2
      have cS := odd_calls R W
      cases hsp : oddR R <;> rw [hsp] at cS <;> simp only [hsp, if_true, Bool.false_eq_true, if_false] at hleft
      · go_wp2_with (go_at_call 33; refine cS.mono ?_; rintro e W' ⟨rfl, rfl⟩)
        go_roundg g'
        case measure => omega
        case rel => exact ⟨pos + K, hit2, hbw2, hleft, by omega⟩
      · go_wp2_with (go_at_call 33; refine cS.mono ?_; rintro e W' ⟨rfl, rfl⟩)
        go_ret
        exact ⟨by rw [← hleft] <;> rfl, hbw2⟩
    · have hnx : ∀ ty, (Instr.next (.pointer (some ⟨w.heap.size, 0, none⟩)) true ty).run Try.prog wr = _ := fun ty => Lib.run_next_end_at wr w.heap.size s pos ty hit hps
      rw [idxF_end oddR s gk pos hps] at hleft
      go_wp2
      go_ret
      exact ⟨by rw [← hleft] <;> rfl, hbw⟩
theorem idxFunc_odd (s : ByteArray) (w : World) :
    Calls Try.prog 39 #[.string s, .func (.func 33) #[] #[]] w fun e w' => e = .returned (.int .i64 (idxF oddR s s.size 0)) ∧ Below w.heap.size w w' := by
  go_enter Try.func39, Try.ntmps39
  go_wp2_with (go_at_call 41; refine (indexFunc_odd s _).mono ?_; rintro e W' ⟨rfl, hb⟩)
  go_ret
  exact ⟨rfl, hb⟩
/-- All letters are graphic. -/
def allIn (l : List UInt8) : Bool := l.all fun b => decide (33 ≤ b.toNat ∧ b.toNat ≤ 126)
theorem decode_odd (s : ByteArray) (pos : Nat) : oddR (Utf8.decode s pos).1 = oddR (s.get! pos).toNat := by
  rw [Lib.decode_at]
  have hb := (s.get! pos).toNat_lt
  generalize (s.get! pos).toNat = b at *
  by_cases h : b < 128
  · simp [Lib.decodeN, h]
  · rw [oddR_yes (r := b) (.inr (by omega))]
    apply oddR_yes
    right
    unfold Lib.decodeN
    rw [if_neg h]
    repeat' split
    all_goals first | omega | (simp only []; omega)
theorem decode_one (s : ByteArray) (pos : Nat) (h : oddR (s.get! pos).toNat = false) : (Utf8.decode s pos).2 = 1 := by
  rw [Lib.decode_at]
  generalize (s.get! pos).toNat = b at *
  have : b < 128 := by
    by_cases hb : b < 128
    · exact hb
    · rw [oddR_yes (.inr (by omega))] at h
      cases h
  simp [Lib.decodeN, this]
theorem idxF_iff (s : ByteArray) (f : Nat) : ∀ pos, s.size ≤ pos + f → (0 ≤ idxF oddR s f pos ↔ ∃ j, pos ≤ j ∧ j < s.size ∧ oddR (s.get! j).toNat = true) := by
  induction f with
  | zero =>
    intro pos h
    simp only [idxF]
    constructor
    · intro h1
      omega
    · rintro ⟨j, h1, h2, _⟩
      omega
  | succ f ih =>
    intro pos h
    simp only [idxF]
    by_cases hp : pos < s.size
    · rw [if_pos hp, decode_odd]
      by_cases ho : oddR (s.get! pos).toNat = true
      · rw [if_pos ho]
        exact ⟨fun _ => ⟨pos, Nat.le_refl _, hp, ho⟩, fun _ => by omega⟩
      · rw [if_neg ho, decode_one s pos (by simpa using ho), ih (pos + 1) (by omega)]
        constructor
        · rintro ⟨j, h1, h2, h3⟩
          exact ⟨j, by omega, h2, h3⟩
        · rintro ⟨j, h1, h2, h3⟩
          by_cases e : j = pos
          · subst e
            exact absurd h3 ho
          · exact ⟨j, by omega, h2, h3⟩
    · rw [if_neg hp]
      constructor
      · intro h1
        omega
      · rintro ⟨j, h1, h2, _⟩
        omega
theorem get!_list (s : ByteArray) (j : Nat) (h : j < s.size) : s.get! j = s.data.toList[j]'(by rw [data_length]; exact h) := by
  have : j < s.data.size := h
  show s.data[j]! = _
  rw [getElem!_pos s.data j this]
  rfl
theorem allIn_iff (s : ByteArray) : (0 ≤ idxF oddR s s.size 0) ↔ (!allIn s.data.toList) = true := by
  rw [idxF_iff s s.size 0 (by omega)]
  constructor
  · rintro ⟨j, _, h2, h3⟩
    have hm : s.data.toList[j]'(by rw [data_length]; exact h2) ∈ s.data.toList := List.getElem_mem _
    rw [get!_list s j h2] at h3
    cases ha : allIn s.data.toList with
    | false => rfl
    | true =>
      have := List.all_eq_true.1 ha _ hm
      simp only [decide_eq_true_eq] at this
      rw [oddR_no (by omega)] at h3
      cases h3
  · intro h
    have ha : allIn s.data.toList = false := by simpa using h
    obtain ⟨b, hb, hn⟩ := List.all_eq_false.1 ha
    obtain ⟨j, hj, rfl⟩ := List.getElem_of_mem hb
    have hj2 : j < s.size := by rw [data_length] at hj; exact hj
    refine ⟨j, Nat.zero_le _, hj2, ?_⟩
    rw [get!_list s j hj2]
    simp only [decide_eq_true_eq] at hn
    exact oddR_yes (by omega)
theorem contains_odd (s : ByteArray) (b : Bool) (hb : allIn s.data.toList = !b) (w : World) :
    Calls Try.prog 32 #[.string s, .func (.func 33) #[] #[]] w fun e w' => e = .returned (.bool b) ∧ Below w.heap.size w w' := by
  have hi := allIn_iff s
  rw [hb, Bool.not_not] at hi
  obtain ⟨j, hj⟩ : ∃ j, idxF oddR s s.size 0 = j := ⟨_, rfl⟩
  have c := idxFunc_odd s
  rw [hj] at hi c
  have f1 : decide (0 ≤ j) = b := by cases b <;> simp_all
  clear hj hi hb
  go_enter Try.func32, Try.ntmps32
  go_wp2_with (go_at_call 39; refine (c _).mono ?_; rintro e W' ⟨rfl, hb⟩)
  go_ret
  exact ⟨rfl, hb⟩
/-- A text is another one, or that with a point and more behind it. -/
def headIs (l p : List UInt8) : Bool := decide (l.take p.length = p) && (decide (l.length = p.length) || decide ((l.getD p.length 0).toNat = 46))
def kindNames : List (List UInt8) := [[46, 116, 101, 120, 116], [46, 114, 111, 100, 97, 116, 97], [46, 100, 97, 116, 97], [46, 98, 115, 115]]
/-- The kind of a name that may be: from place k of the names on. -/
def kindFrom (l : List UInt8) : List (List UInt8) → Nat → Nat
  | [], _ => 0
  | p :: ps, k => if headIs l p = true then k + 1 else kindFrom l ps (k + 1)
def kindOf (l : List UInt8) : Nat := kindFrom l kindNames 0
/-- What sect.Kind answers. -/
def kindAns (l : List UInt8) : Int × Int := if l.length ≤ 32 ∧ allIn l = true ∧ kindOf l ≠ 0 then ((kindOf l : Int), 0) else (0, 3)
def sect_Kind.f (a0 : ByteArray) : Option (Int × Int) := if a0.size ≤ 9223372036854775807 then some (kindAns a0.data.toList) else none
theorem ext_list (s : ByteArray) (a b : Nat) : (s.extract a b).data.toList = (s.data.toList.take b).drop a := by
  rw [ByteArray.data_extract, Array.toList_extract, List.extract_eq_take_drop, List.drop_take]
theorem cut_pre (s p : ByteArray) (h : s.data.toList.take p.size = p.data.toList) (hs : s.size ≤ 9223372036854775807) : strings_CutPrefix.f s p = some (s.extract p.size s.size, true) := by
  have hl : p.size ≤ s.size := by
    have := congrArg List.length h
    rw [List.length_take, data_length, data_length] at this
    omega
  have he : (s.extract 0 p.size).toList = p.toList := by
    rw [ByteArray.toList_eq, ByteArray.toList_eq, ext_list, h, List.drop_zero]
  unfold strings_CutPrefix.f stringslite_CutPrefix.f stringslite_HasPrefix.f
  (try simp only [Int.toNat_natCast])
  rw [if_pos (by omega), if_pos (by omega), if_pos (by omega), he]
  simp only [Option.bind_some, beq_self_eq_true, if_true]
  rw [if_pos (by omega), if_pos (by omega)]
  rfl
theorem cut_not (s p : ByteArray) (h : ¬ s.data.toList.take p.size = p.data.toList) (hs : s.size ≤ 9223372036854775807) : strings_CutPrefix.f s p = some (s, false) := by
  unfold strings_CutPrefix.f stringslite_CutPrefix.f stringslite_HasPrefix.f
  (try simp only [Int.toNat_natCast])
  by_cases hl : (s.size : Int) ≥ (p.size : Int)
  · have he : ((s.extract 0 p.size).toList == p.toList) = false := by
      rw [ByteArray.toList_eq, ByteArray.toList_eq, ext_list, List.drop_zero]
      simpa using h
    rw [if_pos hl, if_pos (by omega), if_pos (by omega), he]
    rfl
  · rw [if_neg hl]
    rfl
theorem below_draws {B : Nat} {w W : World} (h : Below B w W) (n : Nat) : Below B w (W.drewN n) := pw_below_drewN h n
set_option maxHeartbeats 4000000 in
set_option maxRecDepth 1000000 in
theorem sect_Kind.rounds (s : ByteArray) (w : World) (hs : s.size ≤ 9223372036854775807) (h32 : s.size ≤ 32) (ha : allIn s.data.toList = true) (r1 r2 : Int)
    (hres : ∀ k, kindOf s.data.toList = k → k ≠ 0 → ((k : Int), (0 : Int)) = (r1, r2)) (hno : kindOf s.data.toList = 0 → ((0 : Int), (3 : Int)) = (r1, r2)) :
    Calls Try.prog 26 #[.string s] w fun e w' => e = .returned (.tuple #[.int .u8 r1, .int .i64 r2]) ∧ Below w.heap.size w w' := by
  have f32 : decide ((32 : Int) < (s.size : Int)) = false := decide_eq_false (by omega)
  have f32b : decide (32 < s.size) = false := decide_eq_false (by omega)
  have cC := fun W => contains_odd s false ha W
  clear ha
  have HO := Aside0.mk hno
  have HRS := Aside0.mk hres
  clear hno hres
  go_enter Try.func26, Try.ntmps26
  go_wp2_with (go_at_call 32; refine (cC _).mono ?_; rintro e W' ⟨rfl, hb⟩)
  go_loopg [20] 4 (fun gf i wx => ∃ k : Nat, k + gf = 4 ∧ i = .int .i64 k ∧ kindFrom s.data.toList (kindNames.drop k) k = kindOf s.data.toList ∧ Below w.heap.size w wx)
  case atStart => exact ⟨0, rfl, rfl, rfl, hb⟩
  case round =>
    obtain ⟨k, hk, rfl, hleft, hbw⟩ := hrel
    have hres := HRS.out
    clear f32 f32b cC
    rcases (show k = 0 ∨ k = 1 ∨ k = 2 ∨ k = 3 ∨ k = 4 by omega) with rfl | rfl | rfl | rfl | rfl
    · -- name 0
      have hix : ∀ W, (Instr.index 69 (.agg #[.string ⟨#[46, 116, 101, 120, 116]⟩, .string ⟨#[46, 114, 111, 100, 97, 116, 97]⟩, .string ⟨#[46, 100, 97, 116, 97]⟩, .string ⟨#[46, 98, 115, 115]⟩]) (.int .i64 0)).run Try.prog W = .ok (.string ⟨#[46, 116, 101, 120, 116]⟩) W := fun W => by kernel_rfl
      have hkl : (if headIs s.data.toList [46, 116, 101, 120, 116] = true then 1 else kindFrom s.data.toList (kindNames.drop 1) 1) = kindOf s.data.toList := hleft
      clear hleft
      by_cases hp : s.data.toList.take 5 = [46, 116, 101, 120, 116]
      · have cS := fun W => strings_CutPrefix.calls s ⟨#[46, 116, 101, 120, 116]⟩ (s.extract 5 s.size) true W (cut_pre s ⟨#[46, 116, 101, 120, 116]⟩ hp hs)
        obtain ⟨R, hR⟩ : ∃ R, s.extract 5 s.size = R := ⟨_, rfl⟩
        rw [hR] at cS
        have hRl : R.data.toList = s.data.toList.drop 5 := by rw [← hR, ext_list, List.take_of_length_le (by rw [data_length]; exact Nat.le_refl _)]
        have hsz : R.size = s.size - 5 := by have := congrArg List.length hRl; rw [data_length, List.length_drop, data_length] at this; exact this
        have hple : 5 ≤ s.size := by have := congrArg List.length hp; rw [List.length_take, data_length] at this; simp at this; omega
        have ht : R.toList = R.data.toList := ByteArray.toList_eq R
        by_cases h0 : R.size = 0
        · have hnil : R.toList = [] := by rw [ht]; exact List.eq_nil_of_length_eq_zero (by rw [data_length]; exact h0)
          have hhd : headIs s.data.toList [46, 116, 101, 120, 116] = true := by
            have : s.size = 5 := by omega
            simp [headIs, hp, data_length, this]
          rw [if_pos hhd] at hkl
          have e1 : (R.toList == ([] : List UInt8)) = true := by rw [hnil]; rfl
          have e2 : (R.toList != ([] : List UInt8)) = false := by rw [hnil]; rfl
          have e3 : R.toList.isEmpty = true := by rw [hnil]; rfl
          obtain ⟨rfl, rfl⟩ := Prod.mk.inj (hres _ hkl.symm (by decide))
          clear hp hR hRl hsz ht h0 hhd hkl hres
          have HN := Aside0.mk hnil
          clear hnil
          go_wp2_with (go_at_call 34; refine (cS _).mono ?_; rintro e W' ⟨rfl, ⟨nd, rfl⟩⟩)
          go_ret2
          exact ⟨rfl, below_draws hbw nd⟩
        · have hnn : ¬ R.toList = [] := by rw [ht]; intro h; exact h0 (by have := congrArg List.length h; rw [data_length] at this; exact this)
          have e1 : (R.toList == ([] : List UInt8)) = false := by simpa using hnn
          have e2 : (R.toList != ([] : List UInt8)) = true := by simpa using hnn
          have e3 : R.toList.isEmpty = false := by simpa using hnn
          have q9 : 0 < R.size := by omega
          have hx9 : ∀ h : 0 < R.size, ((R[0]'h).toNat : Int) = bt R 0 := bt_at R 0
          have hbt : bt R 0 = ((s.data.toList.getD 5 0).toNat : Int) := by
            have h1 := bt_at R 0 q9
            rw [← h1]
            have h2 : (R[0]'q9) = s.data.toList.getD 5 0 := by
              have h3 : s.data.toList.getD 5 0 = R.data.toList.getD 0 0 := by rw [hRl, List.getD_eq_getElem?_getD, List.getD_eq_getElem?_getD, List.getElem?_drop]
              rw [h3, List.getD_eq_getElem?_getD, Array.getElem?_toList, Array.getElem?_eq_getElem (show 0 < R.data.size from q9)]
              rfl
            exact congrArg (fun b : UInt8 => (b.toNat : Int)) h2
          have qi9 : (0 < (R.size : Int)) = True := eq_true (by omega)
          by_cases h46 : bt R 0 = 46
          · have hhd : headIs s.data.toList [46, 116, 101, 120, 116] = true := by
              have h5 : (s.data.toList.getD 5 0).toNat = 46 := by omega
              simp only [headIs, List.length_cons, List.length_nil, Nat.reduceAdd, hp, h5, decide_true, Bool.or_true, Bool.and_true]
            rw [if_pos hhd] at hkl
            have f46 : (bt R 0 == 46) = true := beq_iff_eq.mpr h46
            obtain ⟨rfl, rfl⟩ := Prod.mk.inj (hres _ hkl.symm (by decide))
            clear hp hR hRl hsz ht h0 hhd hkl hres hbt h46 hnn
            replace q9 := eq_true q9
            go_wp2_with (go_at_call 34; refine (cS _).mono ?_; rintro e W' ⟨rfl, ⟨nd, rfl⟩⟩)
            go_ret2
            exact ⟨rfl, below_draws hbw nd⟩
          · have hhd : ¬ headIs s.data.toList [46, 116, 101, 120, 116] = true := by
              have h5 : ¬ (s.data.toList.getD 5 0).toNat = 46 := by omega
              have h6 : ¬ s.data.toList.length = 5 := by rw [data_length]; omega
              simp only [headIs, List.length_cons, List.length_nil, Nat.reduceAdd, hp, h5, h6, decide_true, decide_false, Bool.or_false, Bool.and_false]
              decide
            rw [if_neg hhd] at hkl
            have f46 : (bt R 0 == 46) = false := beq_eq_false_iff_ne.mpr h46
            clear hp hR hRl hsz ht h0 hhd hbt h46 hnn
            replace q9 := eq_true q9
            have HK := Aside0.mk hkl
            have HR := Aside0.mk hres
            clear hkl hres
            go_wp2_with (go_at_call 34; refine (cS _).mono ?_; rintro e W' ⟨rfl, ⟨nd, rfl⟩⟩)
            go_roundg 3
            case measure => omega
            case rel => exact ⟨1, by omega, rfl, HK.out, below_draws hbw nd⟩
      · have cS := fun W => strings_CutPrefix.calls s ⟨#[46, 116, 101, 120, 116]⟩ s false W (cut_not s ⟨#[46, 116, 101, 120, 116]⟩ hp hs)
        have hhd : ¬ headIs s.data.toList [46, 116, 101, 120, 116] = true := by
          simp only [headIs, List.length_cons, List.length_nil, Nat.reduceAdd, hp, decide_false, Bool.false_and]
          decide
        rw [if_neg hhd] at hkl
        clear hp hhd
        have HK := Aside0.mk hkl
        have HR := Aside0.mk hres
        clear hkl hres
        go_wp2_with (go_at_call 34; refine (cS _).mono ?_; rintro e W' ⟨rfl, ⟨nd, rfl⟩⟩)
        go_roundg 3
        case measure => omega
        case rel => exact ⟨1, by omega, rfl, HK.out, below_draws hbw nd⟩
    · -- name 1
      have hix : ∀ W, (Instr.index 69 (.agg #[.string ⟨#[46, 116, 101, 120, 116]⟩, .string ⟨#[46, 114, 111, 100, 97, 116, 97]⟩, .string ⟨#[46, 100, 97, 116, 97]⟩, .string ⟨#[46, 98, 115, 115]⟩]) (.int .i64 1)).run Try.prog W = .ok (.string ⟨#[46, 114, 111, 100, 97, 116, 97]⟩) W := fun W => by kernel_rfl
      have hkl : (if headIs s.data.toList [46, 114, 111, 100, 97, 116, 97] = true then 2 else kindFrom s.data.toList (kindNames.drop 2) 2) = kindOf s.data.toList := hleft
      clear hleft
      by_cases hp : s.data.toList.take 7 = [46, 114, 111, 100, 97, 116, 97]
      · have cS := fun W => strings_CutPrefix.calls s ⟨#[46, 114, 111, 100, 97, 116, 97]⟩ (s.extract 7 s.size) true W (cut_pre s ⟨#[46, 114, 111, 100, 97, 116, 97]⟩ hp hs)
        obtain ⟨R, hR⟩ : ∃ R, s.extract 7 s.size = R := ⟨_, rfl⟩
        rw [hR] at cS
        have hRl : R.data.toList = s.data.toList.drop 7 := by rw [← hR, ext_list, List.take_of_length_le (by rw [data_length]; exact Nat.le_refl _)]
        have hsz : R.size = s.size - 7 := by have := congrArg List.length hRl; rw [data_length, List.length_drop, data_length] at this; exact this
        have hple : 7 ≤ s.size := by have := congrArg List.length hp; rw [List.length_take, data_length] at this; simp at this; omega
        have ht : R.toList = R.data.toList := ByteArray.toList_eq R
        by_cases h0 : R.size = 0
        · have hnil : R.toList = [] := by rw [ht]; exact List.eq_nil_of_length_eq_zero (by rw [data_length]; exact h0)
          have hhd : headIs s.data.toList [46, 114, 111, 100, 97, 116, 97] = true := by
            have : s.size = 7 := by omega
            simp [headIs, hp, data_length, this]
          rw [if_pos hhd] at hkl
          have e1 : (R.toList == ([] : List UInt8)) = true := by rw [hnil]; rfl
          have e2 : (R.toList != ([] : List UInt8)) = false := by rw [hnil]; rfl
          have e3 : R.toList.isEmpty = true := by rw [hnil]; rfl
          obtain ⟨rfl, rfl⟩ := Prod.mk.inj (hres _ hkl.symm (by decide))
          clear hp hR hRl hsz ht h0 hhd hkl hres
          have HN := Aside0.mk hnil
          clear hnil
          go_wp2_with (go_at_call 34; refine (cS _).mono ?_; rintro e W' ⟨rfl, ⟨nd, rfl⟩⟩)
          go_ret2
          exact ⟨rfl, below_draws hbw nd⟩
        · have hnn : ¬ R.toList = [] := by rw [ht]; intro h; exact h0 (by have := congrArg List.length h; rw [data_length] at this; exact this)
          have e1 : (R.toList == ([] : List UInt8)) = false := by simpa using hnn
          have e2 : (R.toList != ([] : List UInt8)) = true := by simpa using hnn
          have e3 : R.toList.isEmpty = false := by simpa using hnn
          have q9 : 0 < R.size := by omega
          have hx9 : ∀ h : 0 < R.size, ((R[0]'h).toNat : Int) = bt R 0 := bt_at R 0
          have hbt : bt R 0 = ((s.data.toList.getD 7 0).toNat : Int) := by
            have h1 := bt_at R 0 q9
            rw [← h1]
            have h2 : (R[0]'q9) = s.data.toList.getD 7 0 := by
              have h3 : s.data.toList.getD 7 0 = R.data.toList.getD 0 0 := by rw [hRl, List.getD_eq_getElem?_getD, List.getD_eq_getElem?_getD, List.getElem?_drop]
              rw [h3, List.getD_eq_getElem?_getD, Array.getElem?_toList, Array.getElem?_eq_getElem (show 0 < R.data.size from q9)]
              rfl
            exact congrArg (fun b : UInt8 => (b.toNat : Int)) h2
          have qi9 : (0 < (R.size : Int)) = True := eq_true (by omega)
          by_cases h46 : bt R 0 = 46
          · have hhd : headIs s.data.toList [46, 114, 111, 100, 97, 116, 97] = true := by
              have h5 : (s.data.toList.getD 7 0).toNat = 46 := by omega
              simp only [headIs, List.length_cons, List.length_nil, Nat.reduceAdd, hp, h5, decide_true, Bool.or_true, Bool.and_true]
            rw [if_pos hhd] at hkl
            have f46 : (bt R 0 == 46) = true := beq_iff_eq.mpr h46
            obtain ⟨rfl, rfl⟩ := Prod.mk.inj (hres _ hkl.symm (by decide))
            clear hp hR hRl hsz ht h0 hhd hkl hres hbt h46 hnn
            replace q9 := eq_true q9
            go_wp2_with (go_at_call 34; refine (cS _).mono ?_; rintro e W' ⟨rfl, ⟨nd, rfl⟩⟩)
            go_ret2
            exact ⟨rfl, below_draws hbw nd⟩
          · have hhd : ¬ headIs s.data.toList [46, 114, 111, 100, 97, 116, 97] = true := by
              have h5 : ¬ (s.data.toList.getD 7 0).toNat = 46 := by omega
              have h6 : ¬ s.data.toList.length = 7 := by rw [data_length]; omega
              simp only [headIs, List.length_cons, List.length_nil, Nat.reduceAdd, hp, h5, h6, decide_true, decide_false, Bool.or_false, Bool.and_false]
              decide
            rw [if_neg hhd] at hkl
            have f46 : (bt R 0 == 46) = false := beq_eq_false_iff_ne.mpr h46
            clear hp hR hRl hsz ht h0 hhd hbt h46 hnn
            replace q9 := eq_true q9
            have HK := Aside0.mk hkl
            have HR := Aside0.mk hres
            clear hkl hres
            go_wp2_with (go_at_call 34; refine (cS _).mono ?_; rintro e W' ⟨rfl, ⟨nd, rfl⟩⟩)
            go_roundg 2
            case measure => omega
            case rel => exact ⟨2, by omega, rfl, HK.out, below_draws hbw nd⟩
      · have cS := fun W => strings_CutPrefix.calls s ⟨#[46, 114, 111, 100, 97, 116, 97]⟩ s false W (cut_not s ⟨#[46, 114, 111, 100, 97, 116, 97]⟩ hp hs)
        have hhd : ¬ headIs s.data.toList [46, 114, 111, 100, 97, 116, 97] = true := by
          simp only [headIs, List.length_cons, List.length_nil, Nat.reduceAdd, hp, decide_false, Bool.false_and]
          decide
        rw [if_neg hhd] at hkl
        clear hp hhd
        have HK := Aside0.mk hkl
        have HR := Aside0.mk hres
        clear hkl hres
        go_wp2_with (go_at_call 34; refine (cS _).mono ?_; rintro e W' ⟨rfl, ⟨nd, rfl⟩⟩)
        go_roundg 2
        case measure => omega
        case rel => exact ⟨2, by omega, rfl, HK.out, below_draws hbw nd⟩
    · -- name 2
      have hix : ∀ W, (Instr.index 69 (.agg #[.string ⟨#[46, 116, 101, 120, 116]⟩, .string ⟨#[46, 114, 111, 100, 97, 116, 97]⟩, .string ⟨#[46, 100, 97, 116, 97]⟩, .string ⟨#[46, 98, 115, 115]⟩]) (.int .i64 2)).run Try.prog W = .ok (.string ⟨#[46, 100, 97, 116, 97]⟩) W := fun W => by kernel_rfl
      have hkl : (if headIs s.data.toList [46, 100, 97, 116, 97] = true then 3 else kindFrom s.data.toList (kindNames.drop 3) 3) = kindOf s.data.toList := hleft
      clear hleft
      by_cases hp : s.data.toList.take 5 = [46, 100, 97, 116, 97]
      · have cS := fun W => strings_CutPrefix.calls s ⟨#[46, 100, 97, 116, 97]⟩ (s.extract 5 s.size) true W (cut_pre s ⟨#[46, 100, 97, 116, 97]⟩ hp hs)
        obtain ⟨R, hR⟩ : ∃ R, s.extract 5 s.size = R := ⟨_, rfl⟩
        rw [hR] at cS
        have hRl : R.data.toList = s.data.toList.drop 5 := by rw [← hR, ext_list, List.take_of_length_le (by rw [data_length]; exact Nat.le_refl _)]
        have hsz : R.size = s.size - 5 := by have := congrArg List.length hRl; rw [data_length, List.length_drop, data_length] at this; exact this
        have hple : 5 ≤ s.size := by have := congrArg List.length hp; rw [List.length_take, data_length] at this; simp at this; omega
        have ht : R.toList = R.data.toList := ByteArray.toList_eq R
        by_cases h0 : R.size = 0
        · have hnil : R.toList = [] := by rw [ht]; exact List.eq_nil_of_length_eq_zero (by rw [data_length]; exact h0)
          have hhd : headIs s.data.toList [46, 100, 97, 116, 97] = true := by
            have : s.size = 5 := by omega
            simp [headIs, hp, data_length, this]
          rw [if_pos hhd] at hkl
          have e1 : (R.toList == ([] : List UInt8)) = true := by rw [hnil]; rfl
          have e2 : (R.toList != ([] : List UInt8)) = false := by rw [hnil]; rfl
          have e3 : R.toList.isEmpty = true := by rw [hnil]; rfl
          obtain ⟨rfl, rfl⟩ := Prod.mk.inj (hres _ hkl.symm (by decide))
          clear hp hR hRl hsz ht h0 hhd hkl hres
          have HN := Aside0.mk hnil
          clear hnil
          go_wp2_with (go_at_call 34; refine (cS _).mono ?_; rintro e W' ⟨rfl, ⟨nd, rfl⟩⟩)
          go_ret2
          exact ⟨rfl, below_draws hbw nd⟩
        · have hnn : ¬ R.toList = [] := by rw [ht]; intro h; exact h0 (by have := congrArg List.length h; rw [data_length] at this; exact this)
          have e1 : (R.toList == ([] : List UInt8)) = false := by simpa using hnn
          have e2 : (R.toList != ([] : List UInt8)) = true := by simpa using hnn
          have e3 : R.toList.isEmpty = false := by simpa using hnn
          have q9 : 0 < R.size := by omega
          have hx9 : ∀ h : 0 < R.size, ((R[0]'h).toNat : Int) = bt R 0 := bt_at R 0
          have hbt : bt R 0 = ((s.data.toList.getD 5 0).toNat : Int) := by
            have h1 := bt_at R 0 q9
            rw [← h1]
            have h2 : (R[0]'q9) = s.data.toList.getD 5 0 := by
              have h3 : s.data.toList.getD 5 0 = R.data.toList.getD 0 0 := by rw [hRl, List.getD_eq_getElem?_getD, List.getD_eq_getElem?_getD, List.getElem?_drop]
              rw [h3, List.getD_eq_getElem?_getD, Array.getElem?_toList, Array.getElem?_eq_getElem (show 0 < R.data.size from q9)]
              rfl
            exact congrArg (fun b : UInt8 => (b.toNat : Int)) h2
          have qi9 : (0 < (R.size : Int)) = True := eq_true (by omega)
          by_cases h46 : bt R 0 = 46
          · have hhd : headIs s.data.toList [46, 100, 97, 116, 97] = true := by
              have h5 : (s.data.toList.getD 5 0).toNat = 46 := by omega
              simp only [headIs, List.length_cons, List.length_nil, Nat.reduceAdd, hp, h5, decide_true, Bool.or_true, Bool.and_true]
            rw [if_pos hhd] at hkl
            have f46 : (bt R 0 == 46) = true := beq_iff_eq.mpr h46
            obtain ⟨rfl, rfl⟩ := Prod.mk.inj (hres _ hkl.symm (by decide))
            clear hp hR hRl hsz ht h0 hhd hkl hres hbt h46 hnn
            replace q9 := eq_true q9
            go_wp2_with (go_at_call 34; refine (cS _).mono ?_; rintro e W' ⟨rfl, ⟨nd, rfl⟩⟩)
            go_ret2
            exact ⟨rfl, below_draws hbw nd⟩
          · have hhd : ¬ headIs s.data.toList [46, 100, 97, 116, 97] = true := by
              have h5 : ¬ (s.data.toList.getD 5 0).toNat = 46 := by omega
              have h6 : ¬ s.data.toList.length = 5 := by rw [data_length]; omega
              simp only [headIs, List.length_cons, List.length_nil, Nat.reduceAdd, hp, h5, h6, decide_true, decide_false, Bool.or_false, Bool.and_false]
              decide
            rw [if_neg hhd] at hkl
            have f46 : (bt R 0 == 46) = false := beq_eq_false_iff_ne.mpr h46
            clear hp hR hRl hsz ht h0 hhd hbt h46 hnn
            replace q9 := eq_true q9
            have HK := Aside0.mk hkl
            have HR := Aside0.mk hres
            clear hkl hres
            go_wp2_with (go_at_call 34; refine (cS _).mono ?_; rintro e W' ⟨rfl, ⟨nd, rfl⟩⟩)
            go_roundg 1
            case measure => omega
            case rel => exact ⟨3, by omega, rfl, HK.out, below_draws hbw nd⟩
      · have cS := fun W => strings_CutPrefix.calls s ⟨#[46, 100, 97, 116, 97]⟩ s false W (cut_not s ⟨#[46, 100, 97, 116, 97]⟩ hp hs)
        have hhd : ¬ headIs s.data.toList [46, 100, 97, 116, 97] = true := by
          simp only [headIs, List.length_cons, List.length_nil, Nat.reduceAdd, hp, decide_false, Bool.false_and]
          decide
        rw [if_neg hhd] at hkl
        clear hp hhd
        have HK := Aside0.mk hkl
        have HR := Aside0.mk hres
        clear hkl hres
        go_wp2_with (go_at_call 34; refine (cS _).mono ?_; rintro e W' ⟨rfl, ⟨nd, rfl⟩⟩)
        go_roundg 1
        case measure => omega
        case rel => exact ⟨3, by omega, rfl, HK.out, below_draws hbw nd⟩
    · -- name 3
      have hix : ∀ W, (Instr.index 69 (.agg #[.string ⟨#[46, 116, 101, 120, 116]⟩, .string ⟨#[46, 114, 111, 100, 97, 116, 97]⟩, .string ⟨#[46, 100, 97, 116, 97]⟩, .string ⟨#[46, 98, 115, 115]⟩]) (.int .i64 3)).run Try.prog W = .ok (.string ⟨#[46, 98, 115, 115]⟩) W := fun W => by kernel_rfl
      have hkl : (if headIs s.data.toList [46, 98, 115, 115] = true then 4 else kindFrom s.data.toList (kindNames.drop 4) 4) = kindOf s.data.toList := hleft
      clear hleft
      by_cases hp : s.data.toList.take 4 = [46, 98, 115, 115]
      · have cS := fun W => strings_CutPrefix.calls s ⟨#[46, 98, 115, 115]⟩ (s.extract 4 s.size) true W (cut_pre s ⟨#[46, 98, 115, 115]⟩ hp hs)
        obtain ⟨R, hR⟩ : ∃ R, s.extract 4 s.size = R := ⟨_, rfl⟩
        rw [hR] at cS
        have hRl : R.data.toList = s.data.toList.drop 4 := by rw [← hR, ext_list, List.take_of_length_le (by rw [data_length]; exact Nat.le_refl _)]
        have hsz : R.size = s.size - 4 := by have := congrArg List.length hRl; rw [data_length, List.length_drop, data_length] at this; exact this
        have hple : 4 ≤ s.size := by have := congrArg List.length hp; rw [List.length_take, data_length] at this; simp at this; omega
        have ht : R.toList = R.data.toList := ByteArray.toList_eq R
        by_cases h0 : R.size = 0
        · have hnil : R.toList = [] := by rw [ht]; exact List.eq_nil_of_length_eq_zero (by rw [data_length]; exact h0)
          have hhd : headIs s.data.toList [46, 98, 115, 115] = true := by
            have : s.size = 4 := by omega
            simp [headIs, hp, data_length, this]
          rw [if_pos hhd] at hkl
          have e1 : (R.toList == ([] : List UInt8)) = true := by rw [hnil]; rfl
          have e2 : (R.toList != ([] : List UInt8)) = false := by rw [hnil]; rfl
          have e3 : R.toList.isEmpty = true := by rw [hnil]; rfl
          obtain ⟨rfl, rfl⟩ := Prod.mk.inj (hres _ hkl.symm (by decide))
          clear hp hR hRl hsz ht h0 hhd hkl hres
          have HN := Aside0.mk hnil
          clear hnil
          go_wp2_with (go_at_call 34; refine (cS _).mono ?_; rintro e W' ⟨rfl, ⟨nd, rfl⟩⟩)
          go_ret2
          exact ⟨rfl, below_draws hbw nd⟩
        · have hnn : ¬ R.toList = [] := by rw [ht]; intro h; exact h0 (by have := congrArg List.length h; rw [data_length] at this; exact this)
          have e1 : (R.toList == ([] : List UInt8)) = false := by simpa using hnn
          have e2 : (R.toList != ([] : List UInt8)) = true := by simpa using hnn
          have e3 : R.toList.isEmpty = false := by simpa using hnn
          have q9 : 0 < R.size := by omega
          have hx9 : ∀ h : 0 < R.size, ((R[0]'h).toNat : Int) = bt R 0 := bt_at R 0
          have hbt : bt R 0 = ((s.data.toList.getD 4 0).toNat : Int) := by
            have h1 := bt_at R 0 q9
            rw [← h1]
            have h2 : (R[0]'q9) = s.data.toList.getD 4 0 := by
              have h3 : s.data.toList.getD 4 0 = R.data.toList.getD 0 0 := by rw [hRl, List.getD_eq_getElem?_getD, List.getD_eq_getElem?_getD, List.getElem?_drop]
              rw [h3, List.getD_eq_getElem?_getD, Array.getElem?_toList, Array.getElem?_eq_getElem (show 0 < R.data.size from q9)]
              rfl
            exact congrArg (fun b : UInt8 => (b.toNat : Int)) h2
          have qi9 : (0 < (R.size : Int)) = True := eq_true (by omega)
          by_cases h46 : bt R 0 = 46
          · have hhd : headIs s.data.toList [46, 98, 115, 115] = true := by
              have h5 : (s.data.toList.getD 4 0).toNat = 46 := by omega
              simp only [headIs, List.length_cons, List.length_nil, Nat.reduceAdd, hp, h5, decide_true, Bool.or_true, Bool.and_true]
            rw [if_pos hhd] at hkl
            have f46 : (bt R 0 == 46) = true := beq_iff_eq.mpr h46
            obtain ⟨rfl, rfl⟩ := Prod.mk.inj (hres _ hkl.symm (by decide))
            clear hp hR hRl hsz ht h0 hhd hkl hres hbt h46 hnn
            replace q9 := eq_true q9
            go_wp2_with (go_at_call 34; refine (cS _).mono ?_; rintro e W' ⟨rfl, ⟨nd, rfl⟩⟩)
            go_ret2
            exact ⟨rfl, below_draws hbw nd⟩
          · have hhd : ¬ headIs s.data.toList [46, 98, 115, 115] = true := by
              have h5 : ¬ (s.data.toList.getD 4 0).toNat = 46 := by omega
              have h6 : ¬ s.data.toList.length = 4 := by rw [data_length]; omega
              simp only [headIs, List.length_cons, List.length_nil, Nat.reduceAdd, hp, h5, h6, decide_true, decide_false, Bool.or_false, Bool.and_false]
              decide
            rw [if_neg hhd] at hkl
            have f46 : (bt R 0 == 46) = false := beq_eq_false_iff_ne.mpr h46
            clear hp hR hRl hsz ht h0 hhd hbt h46 hnn
            replace q9 := eq_true q9
            have HK := Aside0.mk hkl
            have HR := Aside0.mk hres
            clear hkl hres
            go_wp2_with (go_at_call 34; refine (cS _).mono ?_; rintro e W' ⟨rfl, ⟨nd, rfl⟩⟩)
            go_roundg 0
            case measure => omega
            case rel => exact ⟨4, by omega, rfl, HK.out, below_draws hbw nd⟩
      · have cS := fun W => strings_CutPrefix.calls s ⟨#[46, 98, 115, 115]⟩ s false W (cut_not s ⟨#[46, 98, 115, 115]⟩ hp hs)
        have hhd : ¬ headIs s.data.toList [46, 98, 115, 115] = true := by
          simp only [headIs, List.length_cons, List.length_nil, Nat.reduceAdd, hp, decide_false, Bool.false_and]
          decide
        rw [if_neg hhd] at hkl
        clear hp hhd
        have HK := Aside0.mk hkl
        have HR := Aside0.mk hres
        clear hkl hres
        go_wp2_with (go_at_call 34; refine (cS _).mono ?_; rintro e W' ⟨rfl, ⟨nd, rfl⟩⟩)
        go_roundg 0
        case measure => omega
        case rel => exact ⟨4, by omega, rfl, HK.out, below_draws hbw nd⟩
    · -- the names are through
      have h0 : kindOf s.data.toList = 0 := hleft.symm
      obtain ⟨rfl, rfl⟩ := Prod.mk.inj (HO.out h0)
      clear hleft h0 hres
      go_wp2
      go_ret2
      exact ⟨rfl, hbw⟩
set_option maxHeartbeats 4000000 in
set_option maxRecDepth 1000000 in
theorem sect_Kind.calls (a0 : ByteArray) (r1 : Int) (r2 : Int) (w : World) (h : sect_Kind.f a0 = some (r1, r2)) :
    Calls Try.prog 26 #[.string a0] w fun e w' => e = .returned (.tuple #[.int .u8 r1, .int .i64 r2]) ∧ Below w.heap.size w w' := by
  unfold sect_Kind.f kindAns at h
  by_cases hs : a0.size ≤ 9223372036854775807
  · rw [if_pos hs] at h
    have h := Option.some.inj h
    rw [data_length] at h
    by_cases h32 : a0.size ≤ 32
    · cases ha : allIn a0.data.toList with
      | true =>
        refine sect_Kind.rounds a0 w hs h32 ha r1 r2 (fun k hk hne => ?_) (fun h0 => ?_)
        · rw [if_pos ⟨h32, ha, by rw [hk]; exact hne⟩, hk] at h
          exact h
        · rw [if_neg (fun hh => hh.2.2 h0)] at h
          exact h
      | false =>
        rw [if_neg (fun hh => by rw [ha] at hh; cases hh.2.1)] at h
        obtain ⟨rfl, rfl⟩ := Prod.mk.inj h
        have f32 : decide ((32 : Int) < (a0.size : Int)) = false := decide_eq_false (by omega)
        have f32b : decide (32 < a0.size) = false := decide_eq_false (by omega)
        have cC := fun W => contains_odd a0 true ha W
        clear ha h
        go_enter Try.func26, Try.ntmps26
        go_wp2_with (go_at_call 32; refine (cC _).mono ?_; rintro e W' ⟨rfl, hb⟩)
        go_ret2
        exact ⟨rfl, hb⟩
    · rw [if_neg (fun hh => h32 hh.1)] at h
      obtain ⟨rfl, rfl⟩ := Prod.mk.inj h
      have f32 : decide ((32 : Int) < (a0.size : Int)) = true := decide_eq_true (by omega)
      have f32b : decide (32 < a0.size) = true := decide_eq_true (by omega)
      cases ha : allIn a0.data.toList with
      | true =>
        have cC := fun W => contains_odd a0 false ha W
        clear ha h
        go_enter Try.func26, Try.ntmps26
        go_wp2_with (go_at_call 32; refine (cC _).mono ?_; rintro e W' ⟨rfl, hb⟩)
        go_ret2
        exact ⟨rfl, hb⟩
      | false =>
        have cC := fun W => contains_odd a0 true ha W
        clear ha h
        go_enter Try.func26, Try.ntmps26
        go_wp2_with (go_at_call 32; refine (cC _).mono ?_; rintro e W' ⟨rfl, hb⟩)
        go_ret2
        exact ⟨rfl, hb⟩
  · rw [if_neg hs] at h
    cases h

/-! ### bits_OnesCount64: function 36 -/
def bits_OnesCount64.f (a0 : Int) : Option (Int) := some (Go.bits .and .i64 (wrap64 (IntKind.u64.wrap ((IntKind.u64.wrap ((IntKind.u64.wrap ((Go.bits .and .u64 (IntKind.u64.wrap (((IntKind.u64.wrap ((Go.bits .and .u64 ((IntKind.u64.wrap ((Go.bits .and .u64 (a0 / 2) 6148914691236517205) + (Go.bits .and .u64 a0 6148914691236517205))) / 4) 3689348814741910323) + (Go.bits .and .u64 (IntKind.u64.wrap ((Go.bits .and .u64 (a0 / 2) 6148914691236517205) + (Go.bits .and .u64 a0 6148914691236517205))) 3689348814741910323))) / 16) + (IntKind.u64.wrap ((Go.bits .and .u64 ((IntKind.u64.wrap ((Go.bits .and .u64 (a0 / 2) 6148914691236517205) + (Go.bits .and .u64 a0 6148914691236517205))) / 4) 3689348814741910323) + (Go.bits .and .u64 (IntKind.u64.wrap ((Go.bits .and .u64 (a0 / 2) 6148914691236517205) + (Go.bits .and .u64 a0 6148914691236517205))) 3689348814741910323))))) 1085102592571150095) + ((Go.bits .and .u64 (IntKind.u64.wrap (((IntKind.u64.wrap ((Go.bits .and .u64 ((IntKind.u64.wrap ((Go.bits .and .u64 (a0 / 2) 6148914691236517205) + (Go.bits .and .u64 a0 6148914691236517205))) / 4) 3689348814741910323) + (Go.bits .and .u64 (IntKind.u64.wrap ((Go.bits .and .u64 (a0 / 2) 6148914691236517205) + (Go.bits .and .u64 a0 6148914691236517205))) 3689348814741910323))) / 16) + (IntKind.u64.wrap ((Go.bits .and .u64 ((IntKind.u64.wrap ((Go.bits .and .u64 (a0 / 2) 6148914691236517205) + (Go.bits .and .u64 a0 6148914691236517205))) / 4) 3689348814741910323) + (Go.bits .and .u64 (IntKind.u64.wrap ((Go.bits .and .u64 (a0 / 2) 6148914691236517205) + (Go.bits .and .u64 a0 6148914691236517205))) 3689348814741910323))))) 1085102592571150095) / 256))) + ((IntKind.u64.wrap ((Go.bits .and .u64 (IntKind.u64.wrap (((IntKind.u64.wrap ((Go.bits .and .u64 ((IntKind.u64.wrap ((Go.bits .and .u64 (a0 / 2) 6148914691236517205) + (Go.bits .and .u64 a0 6148914691236517205))) / 4) 3689348814741910323) + (Go.bits .and .u64 (IntKind.u64.wrap ((Go.bits .and .u64 (a0 / 2) 6148914691236517205) + (Go.bits .and .u64 a0 6148914691236517205))) 3689348814741910323))) / 16) + (IntKind.u64.wrap ((Go.bits .and .u64 ((IntKind.u64.wrap ((Go.bits .and .u64 (a0 / 2) 6148914691236517205) + (Go.bits .and .u64 a0 6148914691236517205))) / 4) 3689348814741910323) + (Go.bits .and .u64 (IntKind.u64.wrap ((Go.bits .and .u64 (a0 / 2) 6148914691236517205) + (Go.bits .and .u64 a0 6148914691236517205))) 3689348814741910323))))) 1085102592571150095) + ((Go.bits .and .u64 (IntKind.u64.wrap (((IntKind.u64.wrap ((Go.bits .and .u64 ((IntKind.u64.wrap ((Go.bits .and .u64 (a0 / 2) 6148914691236517205) + (Go.bits .and .u64 a0 6148914691236517205))) / 4) 3689348814741910323) + (Go.bits .and .u64 (IntKind.u64.wrap ((Go.bits .and .u64 (a0 / 2) 6148914691236517205) + (Go.bits .and .u64 a0 6148914691236517205))) 3689348814741910323))) / 16) + (IntKind.u64.wrap ((Go.bits .and .u64 ((IntKind.u64.wrap ((Go.bits .and .u64 (a0 / 2) 6148914691236517205) + (Go.bits .and .u64 a0 6148914691236517205))) / 4) 3689348814741910323) + (Go.bits .and .u64 (IntKind.u64.wrap ((Go.bits .and .u64 (a0 / 2) 6148914691236517205) + (Go.bits .and .u64 a0 6148914691236517205))) 3689348814741910323))))) 1085102592571150095) / 256))) / 65536))) + ((IntKind.u64.wrap ((IntKind.u64.wrap ((Go.bits .and .u64 (IntKind.u64.wrap (((IntKind.u64.wrap ((Go.bits .and .u64 ((IntKind.u64.wrap ((Go.bits .and .u64 (a0 / 2) 6148914691236517205) + (Go.bits .and .u64 a0 6148914691236517205))) / 4) 3689348814741910323) + (Go.bits .and .u64 (IntKind.u64.wrap ((Go.bits .and .u64 (a0 / 2) 6148914691236517205) + (Go.bits .and .u64 a0 6148914691236517205))) 3689348814741910323))) / 16) + (IntKind.u64.wrap ((Go.bits .and .u64 ((IntKind.u64.wrap ((Go.bits .and .u64 (a0 / 2) 6148914691236517205) + (Go.bits .and .u64 a0 6148914691236517205))) / 4) 3689348814741910323) + (Go.bits .and .u64 (IntKind.u64.wrap ((Go.bits .and .u64 (a0 / 2) 6148914691236517205) + (Go.bits .and .u64 a0 6148914691236517205))) 3689348814741910323))))) 1085102592571150095) + ((Go.bits .and .u64 (IntKind.u64.wrap (((IntKind.u64.wrap ((Go.bits .and .u64 ((IntKind.u64.wrap ((Go.bits .and .u64 (a0 / 2) 6148914691236517205) + (Go.bits .and .u64 a0 6148914691236517205))) / 4) 3689348814741910323) + (Go.bits .and .u64 (IntKind.u64.wrap ((Go.bits .and .u64 (a0 / 2) 6148914691236517205) + (Go.bits .and .u64 a0 6148914691236517205))) 3689348814741910323))) / 16) + (IntKind.u64.wrap ((Go.bits .and .u64 ((IntKind.u64.wrap ((Go.bits .and .u64 (a0 / 2) 6148914691236517205) + (Go.bits .and .u64 a0 6148914691236517205))) / 4) 3689348814741910323) + (Go.bits .and .u64 (IntKind.u64.wrap ((Go.bits .and .u64 (a0 / 2) 6148914691236517205) + (Go.bits .and .u64 a0 6148914691236517205))) 3689348814741910323))))) 1085102592571150095) / 256))) + ((IntKind.u64.wrap ((Go.bits .and .u64 (IntKind.u64.wrap (((IntKind.u64.wrap ((Go.bits .and .u64 ((IntKind.u64.wrap ((Go.bits .and .u64 (a0 / 2) 6148914691236517205) + (Go.bits .and .u64 a0 6148914691236517205))) / 4) 3689348814741910323) + (Go.bits .and .u64 (IntKind.u64.wrap ((Go.bits .and .u64 (a0 / 2) 6148914691236517205) + (Go.bits .and .u64 a0 6148914691236517205))) 3689348814741910323))) / 16) + (IntKind.u64.wrap ((Go.bits .and .u64 ((IntKind.u64.wrap ((Go.bits .and .u64 (a0 / 2) 6148914691236517205) + (Go.bits .and .u64 a0 6148914691236517205))) / 4) 3689348814741910323) + (Go.bits .and .u64 (IntKind.u64.wrap ((Go.bits .and .u64 (a0 / 2) 6148914691236517205) + (Go.bits .and .u64 a0 6148914691236517205))) 3689348814741910323))))) 1085102592571150095) + ((Go.bits .and .u64 (IntKind.u64.wrap (((IntKind.u64.wrap ((Go.bits .and .u64 ((IntKind.u64.wrap ((Go.bits .and .u64 (a0 / 2) 6148914691236517205) + (Go.bits .and .u64 a0 6148914691236517205))) / 4) 3689348814741910323) + (Go.bits .and .u64 (IntKind.u64.wrap ((Go.bits .and .u64 (a0 / 2) 6148914691236517205) + (Go.bits .and .u64 a0 6148914691236517205))) 3689348814741910323))) / 16) + (IntKind.u64.wrap ((Go.bits .and .u64 ((IntKind.u64.wrap ((Go.bits .and .u64 (a0 / 2) 6148914691236517205) + (Go.bits .and .u64 a0 6148914691236517205))) / 4) 3689348814741910323) + (Go.bits .and .u64 (IntKind.u64.wrap ((Go.bits .and .u64 (a0 / 2) 6148914691236517205) + (Go.bits .and .u64 a0 6148914691236517205))) 3689348814741910323))))) 1085102592571150095) / 256))) / 65536))) / 4294967296)))) 127)
set_option maxHeartbeats 8000000 in
set_option maxRecDepth 100000 in
theorem bits_OnesCount64.calls (a0 : Int) (r : Int) (w : World) (h : bits_OnesCount64.f a0 = some r) :
  Calls Try.prog 36 #[.int .u64 a0] w fun e w' => e = .returned (.int .i64 r) ∧ Drawn0 w w' := by
 have H : (some (Go.bits .and .i64 (wrap64 (IntKind.u64.wrap ((IntKind.u64.wrap ((IntKind.u64.wrap ((Go.bits .and .u64 (IntKind.u64.wrap (((IntKind.u64.wrap ((Go.bits .and .u64 ((IntKind.u64.wrap ((Go.bits .and .u64 (a0 / 2) 6148914691236517205) + (Go.bits .and .u64 a0 6148914691236517205))) / 4) 3689348814741910323) + (Go.bits .and .u64 (IntKind.u64.wrap ((Go.bits .and .u64 (a0 / 2) 6148914691236517205) + (Go.bits .and .u64 a0 6148914691236517205))) 3689348814741910323))) / 16) + (IntKind.u64.wrap ((Go.bits .and .u64 ((IntKind.u64.wrap ((Go.bits .and .u64 (a0 / 2) 6148914691236517205) + (Go.bits .and .u64 a0 6148914691236517205))) / 4) 3689348814741910323) + (Go.bits .and .u64 (IntKind.u64.wrap ((Go.bits .and .u64 (a0 / 2) 6148914691236517205) + (Go.bits .and .u64 a0 6148914691236517205))) 3689348814741910323))))) 1085102592571150095) + ((Go.bits .and .u64 (IntKind.u64.wrap (((IntKind.u64.wrap ((Go.bits .and .u64 ((IntKind.u64.wrap ((Go.bits .and .u64 (a0 / 2) 6148914691236517205) + (Go.bits .and .u64 a0 6148914691236517205))) / 4) 3689348814741910323) + (Go.bits .and .u64 (IntKind.u64.wrap ((Go.bits .and .u64 (a0 / 2) 6148914691236517205) + (Go.bits .and .u64 a0 6148914691236517205))) 3689348814741910323))) / 16) + (IntKind.u64.wrap ((Go.bits .and .u64 ((IntKind.u64.wrap ((Go.bits .and .u64 (a0 / 2) 6148914691236517205) + (Go.bits .and .u64 a0 6148914691236517205))) / 4) 3689348814741910323) + (Go.bits .and .u64 (IntKind.u64.wrap ((Go.bits .and .u64 (a0 / 2) 6148914691236517205) + (Go.bits .and .u64 a0 6148914691236517205))) 3689348814741910323))))) 1085102592571150095) / 256))) + ((IntKind.u64.wrap ((Go.bits .and .u64 (IntKind.u64.wrap (((IntKind.u64.wrap ((Go.bits .and .u64 ((IntKind.u64.wrap ((Go.bits .and .u64 (a0 / 2) 6148914691236517205) + (Go.bits .and .u64 a0 6148914691236517205))) / 4) 3689348814741910323) + (Go.bits .and .u64 (IntKind.u64.wrap ((Go.bits .and .u64 (a0 / 2) 6148914691236517205) + (Go.bits .and .u64 a0 6148914691236517205))) 3689348814741910323))) / 16) + (IntKind.u64.wrap ((Go.bits .and .u64 ((IntKind.u64.wrap ((Go.bits .and .u64 (a0 / 2) 6148914691236517205) + (Go.bits .and .u64 a0 6148914691236517205))) / 4) 3689348814741910323) + (Go.bits .and .u64 (IntKind.u64.wrap ((Go.bits .and .u64 (a0 / 2) 6148914691236517205) + (Go.bits .and .u64 a0 6148914691236517205))) 3689348814741910323))))) 1085102592571150095) + ((Go.bits .and .u64 (IntKind.u64.wrap (((IntKind.u64.wrap ((Go.bits .and .u64 ((IntKind.u64.wrap ((Go.bits .and .u64 (a0 / 2) 6148914691236517205) + (Go.bits .and .u64 a0 6148914691236517205))) / 4) 3689348814741910323) + (Go.bits .and .u64 (IntKind.u64.wrap ((Go.bits .and .u64 (a0 / 2) 6148914691236517205) + (Go.bits .and .u64 a0 6148914691236517205))) 3689348814741910323))) / 16) + (IntKind.u64.wrap ((Go.bits .and .u64 ((IntKind.u64.wrap ((Go.bits .and .u64 (a0 / 2) 6148914691236517205) + (Go.bits .and .u64 a0 6148914691236517205))) / 4) 3689348814741910323) + (Go.bits .and .u64 (IntKind.u64.wrap ((Go.bits .and .u64 (a0 / 2) 6148914691236517205) + (Go.bits .and .u64 a0 6148914691236517205))) 3689348814741910323))))) 1085102592571150095) / 256))) / 65536))) + ((IntKind.u64.wrap ((IntKind.u64.wrap ((Go.bits .and .u64 (IntKind.u64.wrap (((IntKind.u64.wrap ((Go.bits .and .u64 ((IntKind.u64.wrap ((Go.bits .and .u64 (a0 / 2) 6148914691236517205) + (Go.bits .and .u64 a0 6148914691236517205))) / 4) 3689348814741910323) + (Go.bits .and .u64 (IntKind.u64.wrap ((Go.bits .and .u64 (a0 / 2) 6148914691236517205) + (Go.bits .and .u64 a0 6148914691236517205))) 3689348814741910323))) / 16) + (IntKind.u64.wrap ((Go.bits .and .u64 ((IntKind.u64.wrap ((Go.bits .and .u64 (a0 / 2) 6148914691236517205) + (Go.bits .and .u64 a0 6148914691236517205))) / 4) 3689348814741910323) + (Go.bits .and .u64 (IntKind.u64.wrap ((Go.bits .and .u64 (a0 / 2) 6148914691236517205) + (Go.bits .and .u64 a0 6148914691236517205))) 3689348814741910323))))) 1085102592571150095) + ((Go.bits .and .u64 (IntKind.u64.wrap (((IntKind.u64.wrap ((Go.bits .and .u64 ((IntKind.u64.wrap ((Go.bits .and .u64 (a0 / 2) 6148914691236517205) + (Go.bits .and .u64 a0 6148914691236517205))) / 4) 3689348814741910323) + (Go.bits .and .u64 (IntKind.u64.wrap ((Go.bits .and .u64 (a0 / 2) 6148914691236517205) + (Go.bits .and .u64 a0 6148914691236517205))) 3689348814741910323))) / 16) + (IntKind.u64.wrap ((Go.bits .and .u64 ((IntKind.u64.wrap ((Go.bits .and .u64 (a0 / 2) 6148914691236517205) + (Go.bits .and .u64 a0 6148914691236517205))) / 4) 3689348814741910323) + (Go.bits .and .u64 (IntKind.u64.wrap ((Go.bits .and .u64 (a0 / 2) 6148914691236517205) + (Go.bits .and .u64 a0 6148914691236517205))) 3689348814741910323))))) 1085102592571150095) / 256))) + ((IntKind.u64.wrap ((Go.bits .and .u64 (IntKind.u64.wrap (((IntKind.u64.wrap ((Go.bits .and .u64 ((IntKind.u64.wrap ((Go.bits .and .u64 (a0 / 2) 6148914691236517205) + (Go.bits .and .u64 a0 6148914691236517205))) / 4) 3689348814741910323) + (Go.bits .and .u64 (IntKind.u64.wrap ((Go.bits .and .u64 (a0 / 2) 6148914691236517205) + (Go.bits .and .u64 a0 6148914691236517205))) 3689348814741910323))) / 16) + (IntKind.u64.wrap ((Go.bits .and .u64 ((IntKind.u64.wrap ((Go.bits .and .u64 (a0 / 2) 6148914691236517205) + (Go.bits .and .u64 a0 6148914691236517205))) / 4) 3689348814741910323) + (Go.bits .and .u64 (IntKind.u64.wrap ((Go.bits .and .u64 (a0 / 2) 6148914691236517205) + (Go.bits .and .u64 a0 6148914691236517205))) 3689348814741910323))))) 1085102592571150095) + ((Go.bits .and .u64 (IntKind.u64.wrap (((IntKind.u64.wrap ((Go.bits .and .u64 ((IntKind.u64.wrap ((Go.bits .and .u64 (a0 / 2) 6148914691236517205) + (Go.bits .and .u64 a0 6148914691236517205))) / 4) 3689348814741910323) + (Go.bits .and .u64 (IntKind.u64.wrap ((Go.bits .and .u64 (a0 / 2) 6148914691236517205) + (Go.bits .and .u64 a0 6148914691236517205))) 3689348814741910323))) / 16) + (IntKind.u64.wrap ((Go.bits .and .u64 ((IntKind.u64.wrap ((Go.bits .and .u64 (a0 / 2) 6148914691236517205) + (Go.bits .and .u64 a0 6148914691236517205))) / 4) 3689348814741910323) + (Go.bits .and .u64 (IntKind.u64.wrap ((Go.bits .and .u64 (a0 / 2) 6148914691236517205) + (Go.bits .and .u64 a0 6148914691236517205))) 3689348814741910323))))) 1085102592571150095) / 256))) / 65536))) / 4294967296)))) 127)) = some r := h
 clear h
 obtain rfl := Option.some.inj H
 go_enter Try.func36, Try.ntmps36
 go_wp2
 go_ret
 exact ⟨by first | rfl | (simp; done) | (simp [*]; done), by repeat (first | exact Drawn0.refl _ | apply Drawn0.step)⟩

/-! ### bits_OnesCount: function 27 -/
def bits_OnesCount.f (a0 : Int) : Option (Int) := (bits_OnesCount64.f a0).bind fun t188 => (some t188)
set_option maxHeartbeats 8000000 in
set_option maxRecDepth 100000 in
theorem bits_OnesCount.calls (a0 : Int) (r : Int) (w : World) (h : bits_OnesCount.f a0 = some r) :
  Calls Try.prog 27 #[.int .u64 a0] w fun e w' => e = .returned (.int .i64 r) ∧ Drawn0 w w' := by
 have H : ((bits_OnesCount64.f a0).bind fun t188 => (some t188)) = some r := h
 clear h
 replace H := Option.bind_eq_some_iff.mp H
 obtain ⟨t188, A20, H⟩ := H
 replace H : (some t188) = some r := H
 have A2 := Aside0.mk A20
 clear A20
 obtain rfl := Option.some.inj H
 go_enter Try.func27, Try.ntmps27
 go_wp2_with (first | ((with_reducible refine gate_callee (f := 36) rfl ?_); refine goesL_ (some 7) rfl rfl Try.func36 (by kernel_rfl) rfl #[.int .u64 a0] rfl (by (try simp only [List.map_toArray, List.map_cons, List.map_nil]); first | done | rfl | (simp only [List.length_drop, List.length_take]; rfl)) ?_; (with_reducible refine (bits_OnesCount64.calls a0 t188 _ A2.out).mono ?_); rintro e w' ⟨rfl, ⟨nd, rfl⟩⟩; refine ⟨_, rfl, ?_⟩))
 go_ret
 exact ⟨by first | rfl | (simp; done) | (simp [*]; done), by repeat (first | exact Drawn0.refl _ | apply Drawn0.step)⟩

/-! ### sect_Check: function 19 -/
def sect_Check.j0 : Nat → Int → Int → Bool → ByteArray → Int → List Int → Int → Option (Int)
 | 0, _, _, _, _, _, _, _ => none
 | k + 1, x3, x4, x5, x190000, x190001, x190002, x190003 => if x3 = 4 then (if x4 = 0 then (if x5 = true then (if (x190002.length : Int) = 0 then (if x190003 < 0 then (some 8) else (if x190003 > 4096 then (some 8) else (some 0))) else (some 8)) else (some 8)) else (some 8)) else (if x4 = 0 then (if x5 = true then (if x190003 = 0 then (if (x190002.length : Int) < 0 then (some 8) else (if (x190002.length : Int) > 4096 then (some 8) else (some 0))) else (some 8)) else (some 8)) else (some 8))
def sect_Check.f (k : Nat) (a0_0 : ByteArray) (a0_1 : Int) (l0_2 : List Int) (a0_3 : Int) : Option (Int) := (sect_Kind.f a0_0).bind fun bt190 => (if a0_1 > 0 then (if a0_1 ≤ 64 then ((bits_OnesCount.f (IntKind.u64.wrap (a0_1))).bind fun t192 => (sect_Check.j0 k bt190.1 bt190.2 (t192 == 1) a0_0 a0_1 l0_2 a0_3)) else (sect_Check.j0 k bt190.1 bt190.2 false a0_0 a0_1 l0_2 a0_3)) else (sect_Check.j0 k bt190.1 bt190.2 false a0_0 a0_1 l0_2 a0_3))
theorem sect_Check.mono_l : ∀ k, (∀ y0 y1 y2 y3 y4 y5 y6, LeO (sect_Check.j0 k y0 y1 y2 y3 y4 y5 y6) (sect_Check.j0 (k + 1) y0 y1 y2 y3 y4 y5 y6))
 | 0 => fun _ _ _ _ _ _ _ r h => by simp [sect_Check.j0] at h
 | k + 1 => by
  have ih0 := sect_Check.mono_l k
  ·
   intro y0 y1 y2 y3 y4 y5 y6
   unfold sect_Check.j0
   repeat' first
   | (with_reducible exact ih0 _ _ _ _ _ _ _)
   | (with_reducible exact LeO.refl _)
   | (with_reducible exact LeO.none _)
   | (with_reducible refine LeO.ite ?_ ?_)
   | (with_reducible refine LeO.bind ?_ (fun _ => ?_))
   | exact ih0 _ _ _ _ _ _ _
   | exact LeO.none _
   | refine LeO.ite ?_ ?_
   | refine LeO.bind ?_ (fun _ => ?_)
theorem sect_Check.mono : ∀ a0 a1 a2 a3 k, LeO (sect_Check.f k a0 a1 a2 a3) (sect_Check.f (k + 1) a0 a1 a2 a3) := by
 intro a0 a1 a2 a3 k
 have ih0 := sect_Check.mono_l k
 unfold sect_Check.f
 repeat' first
   | (with_reducible exact ih0 _ _ _ _ _ _ _)
   | (with_reducible exact LeO.refl _)
   | (with_reducible exact LeO.none _)
   | (with_reducible refine LeO.ite ?_ ?_)
   | (with_reducible refine LeO.bind ?_ (fun _ => ?_))
   | exact ih0 _ _ _ _ _ _ _
   | exact LeO.none _
   | refine LeO.ite ?_ ?_
   | refine LeO.bind ?_ (fun _ => ?_)
set_option maxHeartbeats 8000000 in
set_option maxRecDepth 100000 in
theorem sect_Check.calls (k : Nat) (a0_0 : ByteArray) (a0_1 : Int) (A0_2 : Option Addr) (c0_2 : Nat) (l0_2 : List Int) (a0_3 : Int) (r : Int) (w : World) (hr0_2 : Kd.C (Kd.int .u8) w A0_2 l0_2.length l0_2) (hc0_2 : l0_2.length ≤ c0_2) (h : sect_Check.f k a0_0 a0_1 l0_2 a0_3 = some r) :
  Calls Try.prog 19 #[.agg #[.string a0_0, .int .i64 a0_1, .slice A0_2 l0_2.length c0_2, .int .i64 a0_3]] w fun e w' => e = .returned (.int .i64 r) ∧ Below w.heap.size w w' := by
 have hu44 := Try.underlying44
 have HR0_2 := Aside0.mk hr0_2
 have HC0_2 := Aside0.mk hc0_2
 clear hr0_2 hc0_2
 have HB := Aside0.mk (Below.refl w.heap.size w)
 have H : ((sect_Kind.f a0_0).bind fun bt190 => (if a0_1 > 0 then (if a0_1 ≤ 64 then ((bits_OnesCount.f (IntKind.u64.wrap (a0_1))).bind fun t192 => (sect_Check.j0 k bt190.1 bt190.2 (t192 == 1) a0_0 a0_1 l0_2 a0_3)) else (sect_Check.j0 k bt190.1 bt190.2 false a0_0 a0_1 l0_2 a0_3)) else (sect_Check.j0 k bt190.1 bt190.2 false a0_0 a0_1 l0_2 a0_3))) = some r := h
 clear h
 replace H := Option.bind_eq_some_iff.mp H
 obtain ⟨⟨t190, t191⟩, A20, H⟩ := H
 replace H : (if a0_1 > 0 then (if a0_1 ≤ 64 then ((bits_OnesCount.f (IntKind.u64.wrap (a0_1))).bind fun t192 => (sect_Check.j0 k t190 t191 (t192 == 1) a0_0 a0_1 l0_2 a0_3)) else (sect_Check.j0 k t190 t191 false a0_0 a0_1 l0_2 a0_3)) else (sect_Check.j0 k t190 t191 false a0_0 a0_1 l0_2 a0_3)) = some r := H
 have A2 := Aside0.mk A20
 clear A20
 have HC3 := Aside0.mk H
 clear H
 go_enter Try.func19, Try.ntmps19
 go_upto_region 2 with (first | ((with_reducible refine gate_dst (N := 1) rfl ?_); refine box_event ?hg (N := 1) ?hd (cs := #[.string a0_0, .int .i64 a0_1, .slice A0_2 l0_2.length c0_2, .int .i64 a0_3]) (t := 44) ?hr ?_; (case hd => rfl); (case hg => rfl); (case hr => first | (go_simp; done) | (go_simp; rfl)); intro gb189 hg w4 hbox hb; have n0_ := Aside0.mk (below_step (by repeat (first | (with_reducible first | exact HB.out | apply below_alloc | apply pw_below_drewN | apply below_drew1) | exact HB.out)) hb); have n1_ := Aside0.mk (hbox); have n2_ := Aside0.mk ((by rw [hg]; exact (below_size (by repeat (first | (with_reducible first | exact HB.out | apply below_alloc | apply pw_below_drewN | apply below_drew1) | exact HB.out))) : w.heap.size ≤ gb189)); have n3_ := Aside0.mk ((by rw [hg]; exact (below_size (by repeat (first | (with_reducible first | exact HB.out | apply below_alloc | apply pw_below_drewN | apply below_drew1) | exact HB.out))) : w.heap.size ≤ gb189)); clear HB; have HB := n0_; have BK189 := n1_; have GW189 := n2_; have GE189 := n3_; clear n0_ n1_ n2_ n3_; clear hb hbox hg; have hcz5_0 : w4.cell? ⟨gb189, 0, none⟩ = some (.string a0_0) := (blk_cell BK189.out 0).trans rfl; have hcz5_1 : w4.cell? ⟨gb189, 1, none⟩ = some (.int .i64 a0_1) := (blk_cell BK189.out 1).trans rfl; have hcz5_2 : w4.cell? ⟨gb189, 2, none⟩ = some (.slice A0_2 l0_2.length c0_2) := (blk_cell BK189.out 2).trans rfl; have hcz5_3 : w4.cell? ⟨gb189, 3, none⟩ = some (.int .i64 a0_3) := (blk_cell BK189.out 3).trans rfl; have hfz5_0 := blk_frozen BK189.out 0; have hfz5_1 := blk_frozen BK189.out 1; have hfz5_2 := blk_frozen BK189.out 2; have hfz5_3 := blk_frozen BK189.out 3) | (go_at_call 26; (with_reducible refine (sect_Kind.calls a0_0 t190 t191 _ A2.out).mono ?_); rintro e w6 ⟨rfl, hb⟩; have n0_ := Aside0.mk (blk_below (g := gb189) (o := .cells #[.string a0_0, .int .i64 a0_1, .slice A0_2 l0_2.length c0_2, .int .i64 a0_3] 44 (0, 0)) (by (with_reducible repeat (first | refine blk_drewN ?_ _ | refine blk_drew ?_ | refine blk_alloc ?_ _)); exact BK189.out) hb); have n1_ := Aside0.mk (below_step (by repeat (first | (with_reducible first | exact HB.out | apply below_alloc | apply pw_below_drewN | apply below_drew1 | refine below_set ?_ GE189.out) | exact HB.out)) hb); clear BK189; clear HB; have BK189 := n0_; have HB := n1_; clear n0_ n1_; (try clear hb); (try clear hb2); (try clear hk); (try clear hi)))
 repeat (go_quiet (first | ((with_reducible refine gate_dst (N := 1) rfl ?_); refine box_event ?hg (N := 1) ?hd (cs := #[.string a0_0, .int .i64 a0_1, .slice A0_2 l0_2.length c0_2, .int .i64 a0_3]) (t := 44) ?hr ?_; (case hd => rfl); (case hg => rfl); (case hr => first | (go_simp; done) | (go_simp; rfl)); intro gb189 hg w4 hbox hb; have n0_ := Aside0.mk (below_step (by repeat (first | (with_reducible first | exact HB.out | apply below_alloc | apply pw_below_drewN | apply below_drew1) | exact HB.out)) hb); have n1_ := Aside0.mk (hbox); have n2_ := Aside0.mk ((by rw [hg]; exact (below_size (by repeat (first | (with_reducible first | exact HB.out | apply below_alloc | apply pw_below_drewN | apply below_drew1) | exact HB.out))) : w.heap.size ≤ gb189)); have n3_ := Aside0.mk ((by rw [hg]; exact (below_size (by repeat (first | (with_reducible first | exact HB.out | apply below_alloc | apply pw_below_drewN | apply below_drew1) | exact HB.out))) : w.heap.size ≤ gb189)); clear HB; have HB := n0_; have BK189 := n1_; have GW189 := n2_; have GE189 := n3_; clear n0_ n1_ n2_ n3_; clear hb hbox hg; have hcz5_0 : w4.cell? ⟨gb189, 0, none⟩ = some (.string a0_0) := (blk_cell BK189.out 0).trans rfl; have hcz5_1 : w4.cell? ⟨gb189, 1, none⟩ = some (.int .i64 a0_1) := (blk_cell BK189.out 1).trans rfl; have hcz5_2 : w4.cell? ⟨gb189, 2, none⟩ = some (.slice A0_2 l0_2.length c0_2) := (blk_cell BK189.out 2).trans rfl; have hcz5_3 : w4.cell? ⟨gb189, 3, none⟩ = some (.int .i64 a0_3) := (blk_cell BK189.out 3).trans rfl; have hfz5_0 := blk_frozen BK189.out 0; have hfz5_1 := blk_frozen BK189.out 1; have hfz5_2 := blk_frozen BK189.out 2; have hfz5_3 := blk_frozen BK189.out 3) | (go_at_call 26; (with_reducible refine (sect_Kind.calls a0_0 t190 t191 _ A2.out).mono ?_); rintro e w6 ⟨rfl, hb⟩; have n0_ := Aside0.mk (blk_below (g := gb189) (o := .cells #[.string a0_0, .int .i64 a0_1, .slice A0_2 l0_2.length c0_2, .int .i64 a0_3] 44 (0, 0)) (by (with_reducible repeat (first | refine blk_drewN ?_ _ | refine blk_drew ?_ | refine blk_alloc ?_ _)); exact BK189.out) hb); have n1_ := Aside0.mk (below_step (by repeat (first | (with_reducible first | exact HB.out | apply below_alloc | apply pw_below_drewN | apply below_drew1 | refine below_set ?_ GE189.out) | exact HB.out)) hb); clear BK189; clear HB; have BK189 := n0_; have HB := n1_; clear n0_ n1_; (try clear hb); (try clear hb2); (try clear hk); (try clear hi))); go_upto_region 2 with (first | ((with_reducible refine gate_dst (N := 1) rfl ?_); refine box_event ?hg (N := 1) ?hd (cs := #[.string a0_0, .int .i64 a0_1, .slice A0_2 l0_2.length c0_2, .int .i64 a0_3]) (t := 44) ?hr ?_; (case hd => rfl); (case hg => rfl); (case hr => first | (go_simp; done) | (go_simp; rfl)); intro gb189 hg w4 hbox hb; have n0_ := Aside0.mk (below_step (by repeat (first | (with_reducible first | exact HB.out | apply below_alloc | apply pw_below_drewN | apply below_drew1) | exact HB.out)) hb); have n1_ := Aside0.mk (hbox); have n2_ := Aside0.mk ((by rw [hg]; exact (below_size (by repeat (first | (with_reducible first | exact HB.out | apply below_alloc | apply pw_below_drewN | apply below_drew1) | exact HB.out))) : w.heap.size ≤ gb189)); have n3_ := Aside0.mk ((by rw [hg]; exact (below_size (by repeat (first | (with_reducible first | exact HB.out | apply below_alloc | apply pw_below_drewN | apply below_drew1) | exact HB.out))) : w.heap.size ≤ gb189)); clear HB; have HB := n0_; have BK189 := n1_; have GW189 := n2_; have GE189 := n3_; clear n0_ n1_ n2_ n3_; clear hb hbox hg; have hcz5_0 : w4.cell? ⟨gb189, 0, none⟩ = some (.string a0_0) := (blk_cell BK189.out 0).trans rfl; have hcz5_1 : w4.cell? ⟨gb189, 1, none⟩ = some (.int .i64 a0_1) := (blk_cell BK189.out 1).trans rfl; have hcz5_2 : w4.cell? ⟨gb189, 2, none⟩ = some (.slice A0_2 l0_2.length c0_2) := (blk_cell BK189.out 2).trans rfl; have hcz5_3 : w4.cell? ⟨gb189, 3, none⟩ = some (.int .i64 a0_3) := (blk_cell BK189.out 3).trans rfl; have hfz5_0 := blk_frozen BK189.out 0; have hfz5_1 := blk_frozen BK189.out 1; have hfz5_2 := blk_frozen BK189.out 2; have hfz5_3 := blk_frozen BK189.out 3) | (go_at_call 26; (with_reducible refine (sect_Kind.calls a0_0 t190 t191 _ A2.out).mono ?_); rintro e w6 ⟨rfl, hb⟩; have n0_ := Aside0.mk (blk_below (g := gb189) (o := .cells #[.string a0_0, .int .i64 a0_1, .slice A0_2 l0_2.length c0_2, .int .i64 a0_3] 44 (0, 0)) (by (with_reducible repeat (first | refine blk_drewN ?_ _ | refine blk_drew ?_ | refine blk_alloc ?_ _)); exact BK189.out) hb); have n1_ := Aside0.mk (below_step (by repeat (first | (with_reducible first | exact HB.out | apply below_alloc | apply pw_below_drewN | apply below_drew1 | refine below_set ?_ GE189.out) | exact HB.out)) hb); clear BK189; clear HB; have BK189 := n0_; have HB := n1_; clear n0_ n1_; (try clear hb); (try clear hb2); (try clear hk); (try clear hi))))
 (try simp only [Act.put, List.setIfInBounds_toArray, List.set_cons_zero, List.set_cons_succ])
 go_cut [5] (fun v5 wc => ∃ (kq : Nat) (x5_2 : Bool), v5 = .bool x5_2 ∧ Aside0 (sect_Check.j0 kq t190 t191 x5_2 a0_0 a0_1 l0_2 a0_3 = some r) ∧ Aside0 (kq ≤ k) ∧ Aside0 (wc.heap[gb189]? = some (.cells #[.string a0_0, .int .i64 a0_1, (.slice A0_2 l0_2.length c0_2), .int .i64 a0_3] 44 (0, 0))) ∧ Aside0 (Below w.heap.size w wc))
 case first =>
  have H := HC3.out
  clear HC3
  by_cases c7 : a0_1 > 0
  ·
   rw [if_pos c7] at H
   have c7b0 : decide (0 < a0_1) = true := decide_eq_true c7
   clear c7
   (first | rw [c7b0] | (simp only [i64_w, i32_w]; rw [c7b0]) | skip)
   by_cases c8 : a0_1 ≤ 64
   ·
    rw [if_pos c8] at H
    have c8b0 : decide (a0_1 ≤ 64) = true := decide_eq_true c8
    clear c8
    replace H := Option.bind_eq_some_iff.mp H
    obtain ⟨t192, A90, H⟩ := H
    replace H : (sect_Check.j0 k t190 t191 (t192 == 1) a0_0 a0_1 l0_2 a0_3) = some r := H
    have A9 := Aside0.mk A90
    clear A90
    have H' := Aside0.mk H
    clear H
    have hcz10_0 : w6.cell? ⟨gb189, 0, none⟩ = some (.string a0_0) := (blk_cell BK189.out 0).trans rfl
    have hcz10_1 : w6.cell? ⟨gb189, 1, none⟩ = some (.int .i64 a0_1) := (blk_cell BK189.out 1).trans rfl
    have hcz10_2 : w6.cell? ⟨gb189, 2, none⟩ = some (.slice A0_2 l0_2.length c0_2) := (blk_cell BK189.out 2).trans rfl
    have hcz10_3 : w6.cell? ⟨gb189, 3, none⟩ = some (.int .i64 a0_3) := (blk_cell BK189.out 3).trans rfl
    have hfz10_0 := blk_frozen BK189.out 0
    have hfz10_1 := blk_frozen BK189.out 1
    have hfz10_2 := blk_frozen BK189.out 2
    have hfz10_3 := blk_frozen BK189.out 3
    go_wp2_with (first | (go_at_call 27; (with_reducible refine (bits_OnesCount.calls (IntKind.u64.wrap (a0_1)) t192 _ A9.out).mono ?_); rintro e w' ⟨rfl, ⟨nd, rfl⟩⟩; (try first | exact ⟨rfl, _, World.drewN_drewN _ _ _⟩ | exact ⟨rfl, _, Eq.trans (World.drewN_drewN _ _ _) (congrArg (World.drewN _) (Nat.add_assoc _ _ _))⟩)))
    repeat (go_quiet (first | (go_at_call 27; (with_reducible refine (bits_OnesCount.calls (IntKind.u64.wrap (a0_1)) t192 _ A9.out).mono ?_); rintro e w' ⟨rfl, ⟨nd, rfl⟩⟩; (try first | exact ⟨rfl, _, World.drewN_drewN _ _ _⟩ | exact ⟨rfl, _, Eq.trans (World.drewN_drewN _ _ _) (congrArg (World.drewN _) (Nat.add_assoc _ _ _))⟩))); try go_wp2_with (first | (go_at_call 27; (with_reducible refine (bits_OnesCount.calls (IntKind.u64.wrap (a0_1)) t192 _ A9.out).mono ?_); rintro e w' ⟨rfl, ⟨nd, rfl⟩⟩; (try first | exact ⟨rfl, _, World.drewN_drewN _ _ _⟩ | exact ⟨rfl, _, Eq.trans (World.drewN_drewN _ _ _) (congrArg (World.drewN _) (Nat.add_assoc _ _ _))⟩))))
    go_meet
    case rel => exact ⟨_, ((t192 == 1)), (by first | rfl | (simp; done) | (simp [*]; done)), H', ⟨by first | omega | exact Nat.le_refl _⟩, ⟨by (with_reducible repeat (first | refine blk_drewN ?_ _ | refine blk_drew ?_ | refine blk_alloc ?_ _)); exact BK189.out⟩, ⟨by repeat (first | (with_reducible first | exact HB.out | apply below_alloc | apply pw_below_drewN | apply below_drew1 | refine below_set ?_ GE189.out) | exact HB.out)⟩⟩
   ·
    rw [if_neg c8] at H
    have c8b0 : decide (a0_1 ≤ 64) = false := decide_eq_false c8
    clear c8
    have H' := Aside0.mk H
    clear H
    have hcz11_0 : w6.cell? ⟨gb189, 0, none⟩ = some (.string a0_0) := (blk_cell BK189.out 0).trans rfl
    have hcz11_1 : w6.cell? ⟨gb189, 1, none⟩ = some (.int .i64 a0_1) := (blk_cell BK189.out 1).trans rfl
    have hcz11_2 : w6.cell? ⟨gb189, 2, none⟩ = some (.slice A0_2 l0_2.length c0_2) := (blk_cell BK189.out 2).trans rfl
    have hcz11_3 : w6.cell? ⟨gb189, 3, none⟩ = some (.int .i64 a0_3) := (blk_cell BK189.out 3).trans rfl
    have hfz11_0 := blk_frozen BK189.out 0
    have hfz11_1 := blk_frozen BK189.out 1
    have hfz11_2 := blk_frozen BK189.out 2
    have hfz11_3 := blk_frozen BK189.out 3
    go_wp2
    repeat (go_quiet (fail); try go_wp2)
    go_meet
    case rel => exact ⟨_, (false), (by first | rfl | (simp; done) | (simp [*]; done)), H', ⟨by first | omega | exact Nat.le_refl _⟩, ⟨by (with_reducible repeat (first | refine blk_drewN ?_ _ | refine blk_drew ?_ | refine blk_alloc ?_ _)); exact BK189.out⟩, ⟨by repeat (first | (with_reducible first | exact HB.out | apply below_alloc | apply pw_below_drewN | apply below_drew1 | refine below_set ?_ GE189.out) | exact HB.out)⟩⟩
  ·
   rw [if_neg c7] at H
   have c7b0 : decide (0 < a0_1) = false := decide_eq_false c7
   clear c7
   (first | rw [c7b0] | (simp only [i64_w, i32_w]; rw [c7b0]) | skip)
   have H' := Aside0.mk H
   clear H
   have hcz12_0 : w6.cell? ⟨gb189, 0, none⟩ = some (.string a0_0) := (blk_cell BK189.out 0).trans rfl
   have hcz12_1 : w6.cell? ⟨gb189, 1, none⟩ = some (.int .i64 a0_1) := (blk_cell BK189.out 1).trans rfl
   have hcz12_2 : w6.cell? ⟨gb189, 2, none⟩ = some (.slice A0_2 l0_2.length c0_2) := (blk_cell BK189.out 2).trans rfl
   have hcz12_3 : w6.cell? ⟨gb189, 3, none⟩ = some (.int .i64 a0_3) := (blk_cell BK189.out 3).trans rfl
   have hfz12_0 := blk_frozen BK189.out 0
   have hfz12_1 := blk_frozen BK189.out 1
   have hfz12_2 := blk_frozen BK189.out 2
   have hfz12_3 := blk_frozen BK189.out 3
   go_wp2
   repeat (go_quiet (fail); try go_wp2)
   go_meet
   case rel => exact ⟨_, (false), (by first | rfl | (simp; done) | (simp [*]; done)), H', ⟨by first | omega | exact Nat.le_refl _⟩, ⟨by (with_reducible repeat (first | refine blk_drewN ?_ _ | refine blk_drew ?_ | refine blk_alloc ?_ _)); exact BK189.out⟩, ⟨by repeat (first | (with_reducible first | exact HB.out | apply below_alloc | apply pw_below_drewN | apply below_drew1 | refine below_set ?_ GE189.out) | exact HB.out)⟩⟩
 case rest =>
  clear HC3
  try clear c1
  try clear p2
  try clear c7
  try clear c7b0
  try clear c8
  try clear c8b0
  try clear hcz10_0
  try clear hcz10_1
  try clear hcz10_2
  try clear hcz10_3
  try clear hcz11_0
  try clear hcz11_1
  try clear hcz11_2
  try clear hcz11_3
  try clear hcz12_0
  try clear hcz12_1
  try clear hcz12_2
  try clear hcz12_3
  try clear hcz5_0
  try clear hcz5_1
  try clear hcz5_2
  try clear hcz5_3
  try clear hfz10_0
  try clear hfz10_1
  try clear hfz10_2
  try clear hfz10_3
  try clear hfz11_0
  try clear hfz11_1
  try clear hfz11_2
  try clear hfz11_3
  try clear hfz12_0
  try clear hfz12_1
  try clear hfz12_2
  try clear hfz12_3
  try clear hfz5_0
  try clear hfz5_1
  try clear hfz5_2
  try clear hfz5_3
  obtain ⟨kq, x5_2, rfl, HA, HJ2, BK189, HB⟩ := hcut
  cases kq with
  | zero => exact absurd HA.out (by simp [sect_Check.j0])
  | succ kj2 =>
   have H := HA.out
   clear HA
   simp only [sect_Check.j0] at H
   by_cases c13 : t190 = 4
   ·
    rw [if_pos c13] at H
    have c13b0 : (t190 == 4) = true := beq_iff_eq.mpr c13
    have c13b1 : (t190 != 4) = false := bne_eq_false_iff_eq.mpr c13
    clear c13
    by_cases c14 : t191 = 0
    ·
     rw [if_pos c14] at H
     have c14b0 : (t191 == 0) = true := beq_iff_eq.mpr c14
     have c14b1 : (t191 != 0) = false := bne_eq_false_iff_eq.mpr c14
     clear c14
     by_cases c15 : x5_2 = true
     ·
      subst c15
      have H1 : (if (l0_2.length : Int) = 0 then (if a0_3 < 0 then (some 8) else (if a0_3 > 4096 then (some 8) else (some 0))) else (some 8)) = some r := by rw [if_pos rfl] at H; exact H
      clear H
      have H := H1
      clear H1
      by_cases c16 : (l0_2.length : Int) = 0
      ·
       rw [if_pos c16] at H
       have c16b0 : ((l0_2.length : Int) == 0) = true := beq_iff_eq.mpr c16
       have c16b1 : ((l0_2.length : Int) != 0) = false := bne_eq_false_iff_eq.mpr c16
       clear c16
       by_cases c17 : a0_3 < 0
       ·
        rw [if_pos c17] at H
        have c17b0 : decide (a0_3 < 0) = true := decide_eq_true c17
        clear c17
        obtain rfl := Option.some.inj H
        have hcz18_0 : wc.cell? ⟨gb189, 0, none⟩ = some (.string a0_0) := (blk_cell BK189.out 0).trans rfl
        have hcz18_1 : wc.cell? ⟨gb189, 1, none⟩ = some (.int .i64 a0_1) := (blk_cell BK189.out 1).trans rfl
        have hcz18_2 : wc.cell? ⟨gb189, 2, none⟩ = some (.slice A0_2 l0_2.length c0_2) := (blk_cell BK189.out 2).trans rfl
        have hcz18_3 : wc.cell? ⟨gb189, 3, none⟩ = some (.int .i64 a0_3) := (blk_cell BK189.out 3).trans rfl
        have hfz18_0 := blk_frozen BK189.out 0
        have hfz18_1 := blk_frozen BK189.out 1
        have hfz18_2 := blk_frozen BK189.out 2
        have hfz18_3 := blk_frozen BK189.out 3
        go_wp2
        repeat (go_quiet (fail); try go_wp2)
        go_ret
        exact ⟨by first | rfl | (simp [errW_none, errW_some] <;> rfl) | (simp [*, errW_none, errW_some] <;> rfl), by repeat (first | (with_reducible first | exact HB.out | apply below_alloc | apply pw_below_drewN | apply below_drew1 | refine below_set ?_ GE189.out) | exact HB.out)⟩
       ·
        rw [if_neg c17] at H
        have c17b0 : decide (a0_3 < 0) = false := decide_eq_false c17
        clear c17
        by_cases c19 : a0_3 > 4096
        ·
         rw [if_pos c19] at H
         have c19b0 : decide (4096 < a0_3) = true := decide_eq_true c19
         clear c19
         obtain rfl := Option.some.inj H
         have hcz20_0 : wc.cell? ⟨gb189, 0, none⟩ = some (.string a0_0) := (blk_cell BK189.out 0).trans rfl
         have hcz20_1 : wc.cell? ⟨gb189, 1, none⟩ = some (.int .i64 a0_1) := (blk_cell BK189.out 1).trans rfl
         have hcz20_2 : wc.cell? ⟨gb189, 2, none⟩ = some (.slice A0_2 l0_2.length c0_2) := (blk_cell BK189.out 2).trans rfl
         have hcz20_3 : wc.cell? ⟨gb189, 3, none⟩ = some (.int .i64 a0_3) := (blk_cell BK189.out 3).trans rfl
         have hfz20_0 := blk_frozen BK189.out 0
         have hfz20_1 := blk_frozen BK189.out 1
         have hfz20_2 := blk_frozen BK189.out 2
         have hfz20_3 := blk_frozen BK189.out 3
         go_wp2
         repeat (go_quiet (fail); try go_wp2)
         go_ret
         exact ⟨by first | rfl | (simp [errW_none, errW_some] <;> rfl) | (simp [*, errW_none, errW_some] <;> rfl), by repeat (first | (with_reducible first | exact HB.out | apply below_alloc | apply pw_below_drewN | apply below_drew1 | refine below_set ?_ GE189.out) | exact HB.out)⟩
        ·
         rw [if_neg c19] at H
         have c19b0 : decide (4096 < a0_3) = false := decide_eq_false c19
         clear c19
         obtain rfl := Option.some.inj H
         have hcz21_0 : wc.cell? ⟨gb189, 0, none⟩ = some (.string a0_0) := (blk_cell BK189.out 0).trans rfl
         have hcz21_1 : wc.cell? ⟨gb189, 1, none⟩ = some (.int .i64 a0_1) := (blk_cell BK189.out 1).trans rfl
         have hcz21_2 : wc.cell? ⟨gb189, 2, none⟩ = some (.slice A0_2 l0_2.length c0_2) := (blk_cell BK189.out 2).trans rfl
         have hcz21_3 : wc.cell? ⟨gb189, 3, none⟩ = some (.int .i64 a0_3) := (blk_cell BK189.out 3).trans rfl
         have hfz21_0 := blk_frozen BK189.out 0
         have hfz21_1 := blk_frozen BK189.out 1
         have hfz21_2 := blk_frozen BK189.out 2
         have hfz21_3 := blk_frozen BK189.out 3
         go_wp2
         repeat (go_quiet (fail); try go_wp2)
         go_ret
         exact ⟨by first | rfl | (simp [errW_none, errW_some] <;> rfl) | (simp [*, errW_none, errW_some] <;> rfl), by repeat (first | (with_reducible first | exact HB.out | apply below_alloc | apply pw_below_drewN | apply below_drew1 | refine below_set ?_ GE189.out) | exact HB.out)⟩
      ·
       rw [if_neg c16] at H
       have c16b0 : ((l0_2.length : Int) == 0) = false := beq_eq_false_iff_ne.mpr c16
       have c16b1 : ((l0_2.length : Int) != 0) = true := bne_iff_ne.mpr c16
       have c16b2 : ¬ (l0_2 = []) := fun h_ => c16 (by rw [h_]; rfl)
       obtain rfl := Option.some.inj H
       have hcz22_0 : wc.cell? ⟨gb189, 0, none⟩ = some (.string a0_0) := (blk_cell BK189.out 0).trans rfl
       have hcz22_1 : wc.cell? ⟨gb189, 1, none⟩ = some (.int .i64 a0_1) := (blk_cell BK189.out 1).trans rfl
       have hcz22_2 : wc.cell? ⟨gb189, 2, none⟩ = some (.slice A0_2 l0_2.length c0_2) := (blk_cell BK189.out 2).trans rfl
       have hcz22_3 : wc.cell? ⟨gb189, 3, none⟩ = some (.int .i64 a0_3) := (blk_cell BK189.out 3).trans rfl
       have hfz22_0 := blk_frozen BK189.out 0
       have hfz22_1 := blk_frozen BK189.out 1
       have hfz22_2 := blk_frozen BK189.out 2
       have hfz22_3 := blk_frozen BK189.out 3
       go_wp2
       repeat (go_quiet (fail); try go_wp2)
       go_ret
       exact ⟨by first | rfl | (simp [errW_none, errW_some] <;> rfl) | (simp [*, errW_none, errW_some] <;> rfl), by repeat (first | (with_reducible first | exact HB.out | apply below_alloc | apply pw_below_drewN | apply below_drew1 | refine below_set ?_ GE189.out) | exact HB.out)⟩
     ·
      replace c15 := Bool.eq_false_iff.mpr c15
      subst c15
      have H1 : (some 8) = some r := by rw [if_neg (show ¬ (false = true) by decide)] at H; exact H
      clear H
      have H := H1
      clear H1
      obtain rfl := Option.some.inj H
      have hcz23_0 : wc.cell? ⟨gb189, 0, none⟩ = some (.string a0_0) := (blk_cell BK189.out 0).trans rfl
      have hcz23_1 : wc.cell? ⟨gb189, 1, none⟩ = some (.int .i64 a0_1) := (blk_cell BK189.out 1).trans rfl
      have hcz23_2 : wc.cell? ⟨gb189, 2, none⟩ = some (.slice A0_2 l0_2.length c0_2) := (blk_cell BK189.out 2).trans rfl
      have hcz23_3 : wc.cell? ⟨gb189, 3, none⟩ = some (.int .i64 a0_3) := (blk_cell BK189.out 3).trans rfl
      have hfz23_0 := blk_frozen BK189.out 0
      have hfz23_1 := blk_frozen BK189.out 1
      have hfz23_2 := blk_frozen BK189.out 2
      have hfz23_3 := blk_frozen BK189.out 3
      go_wp2
      repeat (go_quiet (fail); try go_wp2)
      go_ret
      exact ⟨by first | rfl | (simp [errW_none, errW_some] <;> rfl) | (simp [*, errW_none, errW_some] <;> rfl), by repeat (first | (with_reducible first | exact HB.out | apply below_alloc | apply pw_below_drewN | apply below_drew1 | refine below_set ?_ GE189.out) | exact HB.out)⟩
    ·
     rw [if_neg c14] at H
     have c14b0 : (t191 == 0) = false := beq_eq_false_iff_ne.mpr c14
     have c14b1 : (t191 != 0) = true := bne_iff_ne.mpr c14
     obtain rfl := Option.some.inj H
     have hcz24_0 : wc.cell? ⟨gb189, 0, none⟩ = some (.string a0_0) := (blk_cell BK189.out 0).trans rfl
     have hcz24_1 : wc.cell? ⟨gb189, 1, none⟩ = some (.int .i64 a0_1) := (blk_cell BK189.out 1).trans rfl
     have hcz24_2 : wc.cell? ⟨gb189, 2, none⟩ = some (.slice A0_2 l0_2.length c0_2) := (blk_cell BK189.out 2).trans rfl
     have hcz24_3 : wc.cell? ⟨gb189, 3, none⟩ = some (.int .i64 a0_3) := (blk_cell BK189.out 3).trans rfl
     have hfz24_0 := blk_frozen BK189.out 0
     have hfz24_1 := blk_frozen BK189.out 1
     have hfz24_2 := blk_frozen BK189.out 2
     have hfz24_3 := blk_frozen BK189.out 3
     go_wp2
     repeat (go_quiet (fail); try go_wp2)
     go_ret
     exact ⟨by first | rfl | (simp [errW_none, errW_some] <;> rfl) | (simp [*, errW_none, errW_some] <;> rfl), by repeat (first | (with_reducible first | exact HB.out | apply below_alloc | apply pw_below_drewN | apply below_drew1 | refine below_set ?_ GE189.out) | exact HB.out)⟩
   ·
    rw [if_neg c13] at H
    have c13b0 : (t190 == 4) = false := beq_eq_false_iff_ne.mpr c13
    have c13b1 : (t190 != 4) = true := bne_iff_ne.mpr c13
    by_cases c25 : t191 = 0
    ·
     rw [if_pos c25] at H
     have c25b0 : (t191 == 0) = true := beq_iff_eq.mpr c25
     have c25b1 : (t191 != 0) = false := bne_eq_false_iff_eq.mpr c25
     clear c25
     by_cases c26 : x5_2 = true
     ·
      subst c26
      have H1 : (if a0_3 = 0 then (if (l0_2.length : Int) < 0 then (some 8) else (if (l0_2.length : Int) > 4096 then (some 8) else (some 0))) else (some 8)) = some r := by rw [if_pos rfl] at H; exact H
      clear H
      have H := H1
      clear H1
      by_cases c27 : a0_3 = 0
      ·
       rw [if_pos c27] at H
       have c27b0 : (a0_3 == 0) = true := beq_iff_eq.mpr c27
       have c27b1 : (a0_3 != 0) = false := bne_eq_false_iff_eq.mpr c27
       clear c27
       by_cases c28 : (l0_2.length : Int) < 0
       ·
        rw [if_pos c28] at H
        have c28b0 : decide ((l0_2.length : Int) < 0) = true := decide_eq_true c28
        have c28b1 : decide (l0_2.length < 0) = true := decide_eq_true (by omega)
        clear c28
        obtain rfl := Option.some.inj H
        have hcz29_0 : wc.cell? ⟨gb189, 0, none⟩ = some (.string a0_0) := (blk_cell BK189.out 0).trans rfl
        have hcz29_1 : wc.cell? ⟨gb189, 1, none⟩ = some (.int .i64 a0_1) := (blk_cell BK189.out 1).trans rfl
        have hcz29_2 : wc.cell? ⟨gb189, 2, none⟩ = some (.slice A0_2 l0_2.length c0_2) := (blk_cell BK189.out 2).trans rfl
        have hcz29_3 : wc.cell? ⟨gb189, 3, none⟩ = some (.int .i64 a0_3) := (blk_cell BK189.out 3).trans rfl
        have hfz29_0 := blk_frozen BK189.out 0
        have hfz29_1 := blk_frozen BK189.out 1
        have hfz29_2 := blk_frozen BK189.out 2
        have hfz29_3 := blk_frozen BK189.out 3
        go_wp2
        repeat (go_quiet (fail); try go_wp2)
        go_ret
        exact ⟨by first | rfl | (simp [errW_none, errW_some] <;> rfl) | (simp [*, errW_none, errW_some] <;> rfl), by repeat (first | (with_reducible first | exact HB.out | apply below_alloc | apply pw_below_drewN | apply below_drew1 | refine below_set ?_ GE189.out) | exact HB.out)⟩
       ·
        rw [if_neg c28] at H
        have c28b0 : decide ((l0_2.length : Int) < 0) = false := decide_eq_false c28
        have c28b1 : decide (l0_2.length < 0) = false := decide_eq_false (by omega)
        clear c28
        by_cases c30 : (l0_2.length : Int) > 4096
        ·
         rw [if_pos c30] at H
         have c30b0 : decide (4096 < (l0_2.length : Int)) = true := decide_eq_true c30
         have c30b1 : decide (4096 < l0_2.length) = true := decide_eq_true (by omega)
         clear c30
         obtain rfl := Option.some.inj H
         have hcz31_0 : wc.cell? ⟨gb189, 0, none⟩ = some (.string a0_0) := (blk_cell BK189.out 0).trans rfl
         have hcz31_1 : wc.cell? ⟨gb189, 1, none⟩ = some (.int .i64 a0_1) := (blk_cell BK189.out 1).trans rfl
         have hcz31_2 : wc.cell? ⟨gb189, 2, none⟩ = some (.slice A0_2 l0_2.length c0_2) := (blk_cell BK189.out 2).trans rfl
         have hcz31_3 : wc.cell? ⟨gb189, 3, none⟩ = some (.int .i64 a0_3) := (blk_cell BK189.out 3).trans rfl
         have hfz31_0 := blk_frozen BK189.out 0
         have hfz31_1 := blk_frozen BK189.out 1
         have hfz31_2 := blk_frozen BK189.out 2
         have hfz31_3 := blk_frozen BK189.out 3
         go_wp2
         repeat (go_quiet (fail); try go_wp2)
         go_ret
         exact ⟨by first | rfl | (simp [errW_none, errW_some] <;> rfl) | (simp [*, errW_none, errW_some] <;> rfl), by repeat (first | (with_reducible first | exact HB.out | apply below_alloc | apply pw_below_drewN | apply below_drew1 | refine below_set ?_ GE189.out) | exact HB.out)⟩
        ·
         rw [if_neg c30] at H
         have c30b0 : decide (4096 < (l0_2.length : Int)) = false := decide_eq_false c30
         have c30b1 : decide (4096 < l0_2.length) = false := decide_eq_false (by omega)
         clear c30
         obtain rfl := Option.some.inj H
         have hcz32_0 : wc.cell? ⟨gb189, 0, none⟩ = some (.string a0_0) := (blk_cell BK189.out 0).trans rfl
         have hcz32_1 : wc.cell? ⟨gb189, 1, none⟩ = some (.int .i64 a0_1) := (blk_cell BK189.out 1).trans rfl
         have hcz32_2 : wc.cell? ⟨gb189, 2, none⟩ = some (.slice A0_2 l0_2.length c0_2) := (blk_cell BK189.out 2).trans rfl
         have hcz32_3 : wc.cell? ⟨gb189, 3, none⟩ = some (.int .i64 a0_3) := (blk_cell BK189.out 3).trans rfl
         have hfz32_0 := blk_frozen BK189.out 0
         have hfz32_1 := blk_frozen BK189.out 1
         have hfz32_2 := blk_frozen BK189.out 2
         have hfz32_3 := blk_frozen BK189.out 3
         go_wp2
         repeat (go_quiet (fail); try go_wp2)
         go_ret
         exact ⟨by first | rfl | (simp [errW_none, errW_some] <;> rfl) | (simp [*, errW_none, errW_some] <;> rfl), by repeat (first | (with_reducible first | exact HB.out | apply below_alloc | apply pw_below_drewN | apply below_drew1 | refine below_set ?_ GE189.out) | exact HB.out)⟩
      ·
       rw [if_neg c27] at H
       have c27b0 : (a0_3 == 0) = false := beq_eq_false_iff_ne.mpr c27
       have c27b1 : (a0_3 != 0) = true := bne_iff_ne.mpr c27
       obtain rfl := Option.some.inj H
       have hcz33_0 : wc.cell? ⟨gb189, 0, none⟩ = some (.string a0_0) := (blk_cell BK189.out 0).trans rfl
       have hcz33_1 : wc.cell? ⟨gb189, 1, none⟩ = some (.int .i64 a0_1) := (blk_cell BK189.out 1).trans rfl
       have hcz33_2 : wc.cell? ⟨gb189, 2, none⟩ = some (.slice A0_2 l0_2.length c0_2) := (blk_cell BK189.out 2).trans rfl
       have hcz33_3 : wc.cell? ⟨gb189, 3, none⟩ = some (.int .i64 a0_3) := (blk_cell BK189.out 3).trans rfl
       have hfz33_0 := blk_frozen BK189.out 0
       have hfz33_1 := blk_frozen BK189.out 1
       have hfz33_2 := blk_frozen BK189.out 2
       have hfz33_3 := blk_frozen BK189.out 3
       go_wp2
       repeat (go_quiet (fail); try go_wp2)
       go_ret
       exact ⟨by first | rfl | (simp [errW_none, errW_some] <;> rfl) | (simp [*, errW_none, errW_some] <;> rfl), by repeat (first | (with_reducible first | exact HB.out | apply below_alloc | apply pw_below_drewN | apply below_drew1 | refine below_set ?_ GE189.out) | exact HB.out)⟩
     ·
      replace c26 := Bool.eq_false_iff.mpr c26
      subst c26
      have H1 : (some 8) = some r := by rw [if_neg (show ¬ (false = true) by decide)] at H; exact H
      clear H
      have H := H1
      clear H1
      obtain rfl := Option.some.inj H
      have hcz34_0 : wc.cell? ⟨gb189, 0, none⟩ = some (.string a0_0) := (blk_cell BK189.out 0).trans rfl
      have hcz34_1 : wc.cell? ⟨gb189, 1, none⟩ = some (.int .i64 a0_1) := (blk_cell BK189.out 1).trans rfl
      have hcz34_2 : wc.cell? ⟨gb189, 2, none⟩ = some (.slice A0_2 l0_2.length c0_2) := (blk_cell BK189.out 2).trans rfl
      have hcz34_3 : wc.cell? ⟨gb189, 3, none⟩ = some (.int .i64 a0_3) := (blk_cell BK189.out 3).trans rfl
      have hfz34_0 := blk_frozen BK189.out 0
      have hfz34_1 := blk_frozen BK189.out 1
      have hfz34_2 := blk_frozen BK189.out 2
      have hfz34_3 := blk_frozen BK189.out 3
      go_wp2
      repeat (go_quiet (fail); try go_wp2)
      go_ret
      exact ⟨by first | rfl | (simp [errW_none, errW_some] <;> rfl) | (simp [*, errW_none, errW_some] <;> rfl), by repeat (first | (with_reducible first | exact HB.out | apply below_alloc | apply pw_below_drewN | apply below_drew1 | refine below_set ?_ GE189.out) | exact HB.out)⟩
    ·
     rw [if_neg c25] at H
     have c25b0 : (t191 == 0) = false := beq_eq_false_iff_ne.mpr c25
     have c25b1 : (t191 != 0) = true := bne_iff_ne.mpr c25
     obtain rfl := Option.some.inj H
     have hcz35_0 : wc.cell? ⟨gb189, 0, none⟩ = some (.string a0_0) := (blk_cell BK189.out 0).trans rfl
     have hcz35_1 : wc.cell? ⟨gb189, 1, none⟩ = some (.int .i64 a0_1) := (blk_cell BK189.out 1).trans rfl
     have hcz35_2 : wc.cell? ⟨gb189, 2, none⟩ = some (.slice A0_2 l0_2.length c0_2) := (blk_cell BK189.out 2).trans rfl
     have hcz35_3 : wc.cell? ⟨gb189, 3, none⟩ = some (.int .i64 a0_3) := (blk_cell BK189.out 3).trans rfl
     have hfz35_0 := blk_frozen BK189.out 0
     have hfz35_1 := blk_frozen BK189.out 1
     have hfz35_2 := blk_frozen BK189.out 2
     have hfz35_3 := blk_frozen BK189.out 3
     go_wp2
     repeat (go_quiet (fail); try go_wp2)
     go_ret
     exact ⟨by first | rfl | (simp [errW_none, errW_some] <;> rfl) | (simp [*, errW_none, errW_some] <;> rfl), by repeat (first | (with_reducible first | exact HB.out | apply below_alloc | apply pw_below_drewN | apply below_drew1 | refine below_set ?_ GE189.out) | exact HB.out)⟩

/-! ### rela_set_has: function 28 -/
def rela_set_has.f (a0 : Int) (a1 : Int) : Option (Bool) := if a1 < 64 then (if 0 ≤ a1 then (some ((Go.bits .and .u64 (shr .u64 a0 a1) 1) == 1)) else (none)) else (some false)
set_option maxHeartbeats 8000000 in
set_option maxRecDepth 100000 in
theorem rela_set_has.calls (a0 : Int) (a1 : Int) (r : Bool) (w : World) (h : rela_set_has.f a0 a1 = some r) :
  Calls Try.prog 28 #[.int .u64 a0, .int .u8 a1] w fun e w' => e = .returned (.bool r) ∧ Drawn0 w w' := by
 have H : (if a1 < 64 then (if 0 ≤ a1 then (some ((Go.bits .and .u64 (shr .u64 a0 a1) 1) == 1)) else (none)) else (some false)) = some r := h
 clear h
 by_cases c3 : a1 < 64
 ·
  rw [if_pos c3] at H
  have c3b0 : decide (a1 < 64) = true := decide_eq_true c3
  clear c3
  by_cases c4 : 0 ≤ a1
  ·
   rw [if_pos c4] at H
   have c4b0 := eq_true c4
   have c4b1 : decide (0 ≤ a1) = true := decide_eq_true c4
   clear c4
   obtain ⟨ji5, hji5⟩ : ∃ j_ : Int, (shr .u64 a0 a1) = j_ := ⟨_, rfl⟩
   replace H : (some ((Go.bits .and .u64 (ji5) 1) == 1)) = some r := by first | (rw [hji5] at H; exact H) | (simp only [hji5] at H ⊢; exact H)
   have hji5_ : (a0 / 2 ^ min a1.toNat 64) = ji5 := hji5
   have hji5z : a1 ≤ 64 → (a0 / 2 ^ a1.toNat) = ji5 := shr_small hji5
   obtain rfl := Option.some.inj H
   go_enter Try.func28, Try.ntmps28
   go_wp2
   go_ret
   exact ⟨by first | rfl | (simp; done) | (simp only [← hji5] <;> (first | rfl | simp)) | (simp [*]; done), by repeat (first | exact Drawn0.refl _ | apply Drawn0.step)⟩
  ·
   rw [if_neg c4] at H
   exact absurd H (by simp)
 ·
  rw [if_neg c3] at H
  have c3b0 : decide (a1 < 64) = false := decide_eq_false c3
  clear c3
  obtain rfl := Option.some.inj H
  go_enter Try.func28, Try.ntmps28
  go_wp2
  go_ret
  exact ⟨by first | rfl | (simp; done) | (simp [*]; done), by repeat (first | exact Drawn0.refl _ | apply Drawn0.step)⟩

end Go.Proofs.Ytdhkmaiidbomdaf.P
