-- Written by pext.py, a program of this session, over the kit's print: a function's contract
import Derived.Test.YtomabnfeipobnaaPx0
import Derived.Test.YtomabnfeipobnaaPx4
import Derived.Test.YtomabnfeipobnaaPx5
namespace Go.Proofs.Ytomabnfeipobnaa.P
open Go.RowKit Go.Proofs.YtomabnfeipobnaaW.PrintWords Go.Proofs.YtomabnfeipobnaaW.PrintLast Go.Proofs.YtomabnfeipobnaaW.PrintMore
attribute [local go_sem] max2_int min2_int max_two min_two max_three min_three max_four min_four   -- for this text's walks alone
set_option linter.unusedVariables false
set_option linter.unusedSimpArgs false


/-! ### sect_Kind: function 35 -/
/-- strings.IndexFunc at a predicate on runes, from place pos on, by at most so many runes. -/
def idxF (p : Nat → Bool) (s : ByteArray) : Nat → Nat → Int
  | 0, _ => -1
  | f + 1, pos => if pos < s.size then (if p (Utf8.decode s pos).1 = true then (pos : Int) else idxF p s f (pos + (Utf8.decode s pos).2)) else -1
theorem idxF_end (p : Nat → Bool) (s : ByteArray) (f pos : Nat) (h : ¬ pos < s.size) : idxF p s f pos = -1 := by cases f <;> simp [idxF, h]
def oddR (r : Nat) : Bool := decide (r < 33) || decide (126 < r)
theorem oddR_yes {r : Nat} (h : r < 33 ∨ 126 < r) : oddR r = true := by simp [oddR]; exact h
theorem oddR_no {r : Nat} (h : ¬ (r < 33 ∨ 126 < r)) : oddR r = false := by simp [oddR]; omega
theorem odd_calls (r : Nat) (w : World) : Calls Try.prog 74 #[.int .i32 (r : Int)] w fun e w' => e = .returned (.bool (oddR r)) ∧ w' = w := by
  by_cases h1 : r < 33
  · have f1 : decide ((r : Int) < 33) = true := decide_eq_true (by omega)
    rw [oddR_yes (.inl h1)]
    go_enter Try.func74, Try.ntmps74
    go_wp2
    go_ret
    exact ⟨rfl, rfl⟩
  · have f1 : decide ((r : Int) < 33) = false := decide_eq_false (by omega)
    by_cases h2 : 126 < r
    · have f2 : decide (126 < (r : Int)) = true := decide_eq_true (by omega)
      rw [oddR_yes (.inr h2)]
      go_enter Try.func74, Try.ntmps74
      go_wp2
      go_ret
      exact ⟨rfl, rfl⟩
    · have f2 : decide (126 < (r : Int)) = false := decide_eq_false (by omega)
      rw [oddR_no (by omega)]
      go_enter Try.func74, Try.ntmps74
      go_wp2
      go_ret
      exact ⟨rfl, rfl⟩
set_option maxHeartbeats 2000000 in
set_option maxRecDepth 1000000 in
theorem indexFunc_odd (s : ByteArray) (w : World) :
    Calls Try.prog 115 #[.string s, .func (.func 74) #[] #[], .bool true] w fun e w' => e = .returned (.int .i64 (idxF oddR s s.size 0)) ∧ Below w.heap.size w w' := by
  go_enter Try.func115, Try.ntmps115
  go_wp2
  go_loopg [] s.size (fun gf wx => ∃ pos : Nat, wx.heap[w.heap.size]? = some (.stringIter s pos) ∧ Below w.heap.size w wx ∧ idxF oddR s gf pos = idxF oddR s s.size 0 ∧ s.size ≤ pos + gf)
  case atStart => exact ⟨0, World.iter_heap w s 0, (Below.refl _ w).alloc (Nat.le_refl _) _, rfl, by omega⟩
  case round =>
    obtain ⟨pos, hit, hbw, hleft, hfu⟩ := hrel
    by_cases hps : pos < s.size
    · obtain ⟨g', rfl⟩ : ∃ g', gk = g' + 1 := ⟨gk - 1, by omega⟩
      have hnx : ∀ ty, (Instr.next (.pointer (some ⟨w.heap.size, 0, none⟩)) true ty).run Try.prog wr = _ := fun ty => Lib.run_next_any_at wr w.heap.size s pos ty hit hps
      have hwd := Lib.width_pos s pos
      obtain ⟨R, hR⟩ : ∃ R, (Utf8.decode s pos).1 = R := ⟨_, rfl⟩
      obtain ⟨K, hK⟩ : ∃ K, (Utf8.decode s pos).2 = K := ⟨_, rfl⟩
      simp only [idxF, hps, if_true, hR, hK] at hleft
      rw [hR, hK] at hnx
      rw [hK] at hwd
      have hit2 := Lib.iterAt_heap wr w.heap.size s pos (pos + K) hit
      have hbw2 := Lib.below_iterAt hbw (k := w.heap.size) (Nat.le_refl _) s (pos + K)
      obtain ⟨W, hWd⟩ : ∃ W, wr.iterAt w.heap.size s (pos + K) = W := ⟨_, rfl⟩
      rw [hWd] at hnx hit2 hbw2
      have cS := odd_calls R W
      cases hsp : oddR R <;> rw [hsp] at cS <;> simp only [hsp, if_true, Bool.false_eq_true, if_false] at hleft
      · go_wp2_with (go_at_call 74; refine cS.mono ?_; rintro e W' ⟨rfl, rfl⟩)
        go_roundg g'
        case measure => omega
        case rel => exact ⟨pos + K, hit2, hbw2, hleft, by omega⟩
      · go_wp2_with (go_at_call 74; refine cS.mono ?_; rintro e W' ⟨rfl, rfl⟩)
        go_ret
        exact ⟨by rw [← hleft] <;> rfl, hbw2⟩
    · have hnx : ∀ ty, (Instr.next (.pointer (some ⟨w.heap.size, 0, none⟩)) true ty).run Try.prog wr = _ := fun ty => Lib.run_next_end_at wr w.heap.size s pos ty hit hps
      rw [idxF_end oddR s gk pos hps] at hleft
      go_wp2
      go_ret
      exact ⟨by rw [← hleft] <;> rfl, hbw⟩
theorem idxFunc_odd (s : ByteArray) (w : World) :
    Calls Try.prog 101 #[.string s, .func (.func 74) #[] #[]] w fun e w' => e = .returned (.int .i64 (idxF oddR s s.size 0)) ∧ Below w.heap.size w w' := by
  go_enter Try.func101, Try.ntmps101
  go_wp2_with (go_at_call 115; refine (indexFunc_odd s _).mono ?_; rintro e W' ⟨rfl, hb⟩)
  go_ret
  exact ⟨rfl, hb⟩
/-- All letters are graphic. -/
def allIn (l : List UInt8) : Bool := l.all fun b => decide (33 ≤ b.toNat ∧ b.toNat ≤ 126)
theorem decode_odd (s : ByteArray) (pos : Nat) : oddR (Utf8.decode s pos).1 = oddR (s.get! pos).toNat := by
  rw [Lib.decode_at]
  have hb := (s.get! pos).toNat_lt
  generalize (s.get! pos).toNat = b at *
  by_cases h : b < 128
  · simp [Lib.decodeN, h]
  · rw [oddR_yes (r := b) (.inr (by omega))]
    apply oddR_yes
    right
    unfold Lib.decodeN
    rw [if_neg h]
    repeat' split
    all_goals first | omega | (simp only []; omega)
theorem decode_one (s : ByteArray) (pos : Nat) (h : oddR (s.get! pos).toNat = false) : (Utf8.decode s pos).2 = 1 := by
  rw [Lib.decode_at]
  generalize (s.get! pos).toNat = b at *
  have : b < 128 := by
    by_cases hb : b < 128
    · exact hb
    · rw [oddR_yes (.inr (by omega))] at h
      cases h
  simp [Lib.decodeN, this]
theorem idxF_iff (s : ByteArray) (f : Nat) : ∀ pos, s.size ≤ pos + f → (0 ≤ idxF oddR s f pos ↔ ∃ j, pos ≤ j ∧ j < s.size ∧ oddR (s.get! j).toNat = true) := by
  induction f with
  | zero =>
    intro pos h
    simp only [idxF]
    constructor
    · intro h1
      omega
    · rintro ⟨j, h1, h2, _⟩
      omega
  | succ f ih =>
    intro pos h
    simp only [idxF]
    by_cases hp : pos < s.size
    · rw [if_pos hp, decode_odd]
      by_cases ho : oddR (s.get! pos).toNat = true
      · rw [if_pos ho]
        exact ⟨fun _ => ⟨pos, Nat.le_refl _, hp, ho⟩, fun _ => by omega⟩
      · rw [if_neg ho, decode_one s pos (by simpa using ho), ih (pos + 1) (by omega)]
        constructor
        · rintro ⟨j, h1, h2, h3⟩
          exact ⟨j, by omega, h2, h3⟩
        · rintro ⟨j, h1, h2, h3⟩
          by_cases e : j = pos
          · subst e
            exact absurd h3 ho
          · exact ⟨j, by omega, h2, h3⟩
    · rw [if_neg hp]
      constructor
      · intro h1
        omega
      · rintro ⟨j, h1, h2, _⟩
        omega
theorem get!_list (s : ByteArray) (j : Nat) (h : j < s.size) : s.get! j = s.data.toList[j]'(by rw [data_length]; exact h) := by
  have : j < s.data.size := h
  show s.data[j]! = _
  rw [getElem!_pos s.data j this]
  rfl
theorem allIn_iff (s : ByteArray) : (0 ≤ idxF oddR s s.size 0) ↔ (!allIn s.data.toList) = true := by
  rw [idxF_iff s s.size 0 (by omega)]
  constructor
  · rintro ⟨j, _, h2, h3⟩
    have hm : s.data.toList[j]'(by rw [data_length]; exact h2) ∈ s.data.toList := List.getElem_mem _
    rw [get!_list s j h2] at h3
    cases ha : allIn s.data.toList with
    | false => rfl
    | true =>
      have := List.all_eq_true.1 ha _ hm
      simp only [decide_eq_true_eq] at this
      rw [oddR_no (by omega)] at h3
      cases h3
  · intro h
    have ha : allIn s.data.toList = false := by simpa using h
    obtain ⟨b, hb, hn⟩ := List.all_eq_false.1 ha
    obtain ⟨j, hj, rfl⟩ := List.getElem_of_mem hb
    have hj2 : j < s.size := by rw [data_length] at hj; exact hj
    refine ⟨j, Nat.zero_le _, hj2, ?_⟩
    rw [get!_list s j hj2]
    simp only [decide_eq_true_eq] at hn
    exact oddR_yes (by omega)
theorem contains_odd (s : ByteArray) (b : Bool) (hb : allIn s.data.toList = !b) (w : World) :
    Calls Try.prog 73 #[.string s, .func (.func 74) #[] #[]] w fun e w' => e = .returned (.bool b) ∧ Below w.heap.size w w' := by
  have hi := allIn_iff s
  rw [hb, Bool.not_not] at hi
  obtain ⟨j, hj⟩ : ∃ j, idxF oddR s s.size 0 = j := ⟨_, rfl⟩
  have c := idxFunc_odd s
  rw [hj] at hi c
  have f1 : decide (0 ≤ j) = b := by cases b <;> simp_all
  clear hj hi hb
  go_enter Try.func73, Try.ntmps73
  go_wp2_with (go_at_call 101; refine (c _).mono ?_; rintro e W' ⟨rfl, hb⟩)
  go_ret
  exact ⟨rfl, hb⟩
/-- A text is another one, or that with a point and more behind it. -/
def headIs (l p : List UInt8) : Bool := decide (l.take p.length = p) && (decide (l.length = p.length) || decide ((l.getD p.length 0).toNat = 46))
def kindNames : List (List UInt8) := [[46, 116, 101, 120, 116], [46, 114, 111, 100, 97, 116, 97], [46, 100, 97, 116, 97], [46, 98, 115, 115]]
/-- The kind of a name that may be: from place k of the names on. -/
def kindFrom (l : List UInt8) : List (List UInt8) → Nat → Nat
  | [], _ => 0
  | p :: ps, k => if headIs l p = true then k + 1 else kindFrom l ps (k + 1)
def kindOf (l : List UInt8) : Nat := kindFrom l kindNames 0
/-- What sect.Kind answers. -/
def kindAns (l : List UInt8) : Int × Int := if l.length ≤ 32 ∧ allIn l = true ∧ kindOf l ≠ 0 then ((kindOf l : Int), 0) else (0, 3)
def sect_Kind.f (a0 : ByteArray) : Option (Int × Int) := if a0.size ≤ 9223372036854775807 then some (kindAns a0.data.toList) else none
theorem ext_list (s : ByteArray) (a b : Nat) : (s.extract a b).data.toList = (s.data.toList.take b).drop a := by
  rw [ByteArray.data_extract, Array.toList_extract, List.extract_eq_take_drop, List.drop_take]
theorem cut_pre (s p : ByteArray) (h : s.data.toList.take p.size = p.data.toList) (hs : s.size ≤ 9223372036854775807) : strings_CutPrefix.f s p = some (s.extract p.size s.size, true) := by
  have hl : p.size ≤ s.size := by
    have := congrArg List.length h
    rw [List.length_take, data_length, data_length] at this
    omega
  have he : (s.extract 0 p.size).toList = p.toList := by
    rw [ByteArray.toList_eq, ByteArray.toList_eq, ext_list, h, List.drop_zero]
  unfold strings_CutPrefix.f stringslite_CutPrefix.f stringslite_HasPrefix.f
  (try simp only [Int.toNat_natCast])
  rw [if_pos (by omega), if_pos (by omega), if_pos (by omega), he]
  simp only [Option.bind_some, beq_self_eq_true, if_true]
  rw [if_pos (by omega), if_pos (by omega)]
  rfl
theorem cut_not (s p : ByteArray) (h : ¬ s.data.toList.take p.size = p.data.toList) (hs : s.size ≤ 9223372036854775807) : strings_CutPrefix.f s p = some (s, false) := by
  unfold strings_CutPrefix.f stringslite_CutPrefix.f stringslite_HasPrefix.f
  (try simp only [Int.toNat_natCast])
  by_cases hl : (s.size : Int) ≥ (p.size : Int)
  · have he : ((s.extract 0 p.size).toList == p.toList) = false := by
      rw [ByteArray.toList_eq, ByteArray.toList_eq, ext_list, List.drop_zero]
      simpa using h
    rw [if_pos hl, if_pos (by omega), if_pos (by omega), he]
    rfl
  · rw [if_neg hl]
    rfl
theorem below_draws {B : Nat} {w W : World} (h : Below B w W) (n : Nat) : Below B w (W.drewN n) := pw_below_drewN h n
set_option maxHeartbeats 4000000 in
set_option maxRecDepth 1000000 in
theorem sect_Kind.rounds (s : ByteArray) (w : World) (hs : s.size ≤ 9223372036854775807) (h32 : s.size ≤ 32) (ha : allIn s.data.toList = true) (r1 r2 : Int)
    (hres : ∀ k, kindOf s.data.toList = k → k ≠ 0 → ((k : Int), (0 : Int)) = (r1, r2)) (hno : kindOf s.data.toList = 0 → ((0 : Int), (3 : Int)) = (r1, r2)) :
    Calls Try.prog 35 #[.string s] w fun e w' => e = .returned (.tuple #[.int .u8 r1, .int .i64 r2]) ∧ Below w.heap.size w w' := by
  have f32 : decide ((32 : Int) < (s.size : Int)) = false := decide_eq_false (by omega)
  have f32b : decide (32 < s.size) = false := decide_eq_false (by omega)
  have cC := fun W => contains_odd s false ha W
  clear ha
  have HO := Aside0.mk hno
  have HRS := Aside0.mk hres
  clear hno hres
  go_enter Try.func35, Try.ntmps35
  go_wp2_with (go_at_call 73; refine (cC _).mono ?_; rintro e W' ⟨rfl, hb⟩)
  go_loopg [20] 4 (fun gf i wx => ∃ k : Nat, k + gf = 4 ∧ i = .int .i64 k ∧ kindFrom s.data.toList (kindNames.drop k) k = kindOf s.data.toList ∧ Below w.heap.size w wx)
  case atStart => exact ⟨0, rfl, rfl, rfl, hb⟩
  case round =>
    obtain ⟨k, hk, rfl, hleft, hbw⟩ := hrel
    have hres := HRS.out
    clear f32 f32b cC
    rcases (show k = 0 ∨ k = 1 ∨ k = 2 ∨ k = 3 ∨ k = 4 by omega) with rfl | rfl | rfl | rfl | rfl
    · -- name 0
      have hix : ∀ W, (Instr.index 110 (.agg #[.string ⟨#[46, 116, 101, 120, 116]⟩, .string ⟨#[46, 114, 111, 100, 97, 116, 97]⟩, .string ⟨#[46, 100, 97, 116, 97]⟩, .string ⟨#[46, 98, 115, 115]⟩]) (.int .i64 0)).run Try.prog W = .ok (.string ⟨#[46, 116, 101, 120, 116]⟩) W := fun W => by kernel_rfl
      have hkl : (if headIs s.data.toList [46, 116, 101, 120, 116] = true then 1 else kindFrom s.data.toList (kindNames.drop 1) 1) = kindOf s.data.toList := hleft
      clear hleft
      by_cases hp : s.data.toList.take 5 = [46, 116, 101, 120, 116]
      · have cS := fun W => strings_CutPrefix.calls s ⟨#[46, 116, 101, 120, 116]⟩ (s.extract 5 s.size) true W (cut_pre s ⟨#[46, 116, 101, 120, 116]⟩ hp hs)
        obtain ⟨R, hR⟩ : ∃ R, s.extract 5 s.size = R := ⟨_, rfl⟩
        rw [hR] at cS
        have hRl : R.data.toList = s.data.toList.drop 5 := by rw [← hR, ext_list, List.take_of_length_le (by rw [data_length]; exact Nat.le_refl _)]
        have hsz : R.size = s.size - 5 := by have := congrArg List.length hRl; rw [data_length, List.length_drop, data_length] at this; exact this
        have hple : 5 ≤ s.size := by have := congrArg List.length hp; rw [List.length_take, data_length] at this; simp at this; omega
        have ht : R.toList = R.data.toList := ByteArray.toList_eq R
        by_cases h0 : R.size = 0
        · have hnil : R.toList = [] := by rw [ht]; exact List.eq_nil_of_length_eq_zero (by rw [data_length]; exact h0)
          have hhd : headIs s.data.toList [46, 116, 101, 120, 116] = true := by
            have : s.size = 5 := by omega
            simp [headIs, hp, data_length, this]
          rw [if_pos hhd] at hkl
          have e1 : (R.toList == ([] : List UInt8)) = true := by rw [hnil]; rfl
          have e2 : (R.toList != ([] : List UInt8)) = false := by rw [hnil]; rfl
          have e3 : R.toList.isEmpty = true := by rw [hnil]; rfl
          obtain ⟨rfl, rfl⟩ := Prod.mk.inj (hres _ hkl.symm (by decide))
          clear hp hR hRl hsz ht h0 hhd hkl hres
          have HN := Aside0.mk hnil
          clear hnil
          go_wp2_with (go_at_call 75; refine (cS _).mono ?_; rintro e W' ⟨rfl, ⟨nd, rfl⟩⟩)
          go_ret2
          exact ⟨rfl, below_draws hbw nd⟩
        · have hnn : ¬ R.toList = [] := by rw [ht]; intro h; exact h0 (by have := congrArg List.length h; rw [data_length] at this; exact this)
          have e1 : (R.toList == ([] : List UInt8)) = false := by simpa using hnn
          have e2 : (R.toList != ([] : List UInt8)) = true := by simpa using hnn
          have e3 : R.toList.isEmpty = false := by simpa using hnn
          have q9 : 0 < R.size := by omega
          have hx9 : ∀ h : 0 < R.size, ((R[0]'h).toNat : Int) = bt R 0 := bt_at R 0
          have hbt : bt R 0 = ((s.data.toList.getD 5 0).toNat : Int) := by
            have h1 := bt_at R 0 q9
            rw [← h1]
            have h2 : (R[0]'q9) = s.data.toList.getD 5 0 := by
              have h3 : s.data.toList.getD 5 0 = R.data.toList.getD 0 0 := by rw [hRl, List.getD_eq_getElem?_getD, List.getD_eq_getElem?_getD, List.getElem?_drop]
              rw [h3, List.getD_eq_getElem?_getD, Array.getElem?_toList, Array.getElem?_eq_getElem (show 0 < R.data.size from q9)]
              rfl
            exact congrArg (fun b : UInt8 => (b.toNat : Int)) h2
          have qi9 : (0 < (R.size : Int)) = True := eq_true (by omega)
          by_cases h46 : bt R 0 = 46
          · have hhd : headIs s.data.toList [46, 116, 101, 120, 116] = true := by
              have h5 : (s.data.toList.getD 5 0).toNat = 46 := by omega
              simp only [headIs, List.length_cons, List.length_nil, Nat.reduceAdd, hp, h5, decide_true, Bool.or_true, Bool.and_true]
            rw [if_pos hhd] at hkl
            have f46 : (bt R 0 == 46) = true := beq_iff_eq.mpr h46
            obtain ⟨rfl, rfl⟩ := Prod.mk.inj (hres _ hkl.symm (by decide))
            clear hp hR hRl hsz ht h0 hhd hkl hres hbt h46 hnn
            replace q9 := eq_true q9
            go_wp2_with (go_at_call 75; refine (cS _).mono ?_; rintro e W' ⟨rfl, ⟨nd, rfl⟩⟩)
            go_ret2
            exact ⟨rfl, below_draws hbw nd⟩
          · have hhd : ¬ headIs s.data.toList [46, 116, 101, 120, 116] = true := by
              have h5 : ¬ (s.data.toList.getD 5 0).toNat = 46 := by omega
              have h6 : ¬ s.data.toList.length = 5 := by rw [data_length]; omega
              simp only [headIs, List.length_cons, List.length_nil, Nat.reduceAdd, hp, h5, h6, decide_true, decide_false, Bool.or_false, Bool.and_false]
              decide
            rw [if_neg hhd] at hkl
            have f46 : (bt R 0 == 46) = false := beq_eq_false_iff_ne.mpr h46
            clear hp hR hRl hsz ht h0 hhd hbt h46 hnn
            replace q9 := eq_true q9
            have HK := Aside0.mk hkl
            have HR := Aside0.mk hres
            clear hkl hres
            go_wp2_with (go_at_call 75; refine (cS _).mono ?_; rintro e W' ⟨rfl, ⟨nd, rfl⟩⟩)
            go_roundg 3
            case measure => omega
            case rel => exact ⟨1, by omega, rfl, HK.out, below_draws hbw nd⟩
      · have cS := fun W => strings_CutPrefix.calls s ⟨#[46, 116, 101, 120, 116]⟩ s false W (cut_not s ⟨#[46, 116, 101, 120, 116]⟩ hp hs)
        have hhd : ¬ headIs s.data.toList [46, 116, 101, 120, 116] = true := by
          simp only [headIs, List.length_cons, List.length_nil, Nat.reduceAdd, hp, decide_false, Bool.false_and]
          decide
        rw [if_neg hhd] at hkl
        clear hp hhd
        have HK := Aside0.mk hkl
        have HR := Aside0.mk hres
        clear hkl hres
        go_wp2_with (go_at_call 75; refine (cS _).mono ?_; rintro e W' ⟨rfl, ⟨nd, rfl⟩⟩)
        go_roundg 3
        case measure => omega
        case rel => exact ⟨1, by omega, rfl, HK.out, below_draws hbw nd⟩
    · -- name 1
      have hix : ∀ W, (Instr.index 110 (.agg #[.string ⟨#[46, 116, 101, 120, 116]⟩, .string ⟨#[46, 114, 111, 100, 97, 116, 97]⟩, .string ⟨#[46, 100, 97, 116, 97]⟩, .string ⟨#[46, 98, 115, 115]⟩]) (.int .i64 1)).run Try.prog W = .ok (.string ⟨#[46, 114, 111, 100, 97, 116, 97]⟩) W := fun W => by kernel_rfl
      have hkl : (if headIs s.data.toList [46, 114, 111, 100, 97, 116, 97] = true then 2 else kindFrom s.data.toList (kindNames.drop 2) 2) = kindOf s.data.toList := hleft
      clear hleft
      by_cases hp : s.data.toList.take 7 = [46, 114, 111, 100, 97, 116, 97]
      · have cS := fun W => strings_CutPrefix.calls s ⟨#[46, 114, 111, 100, 97, 116, 97]⟩ (s.extract 7 s.size) true W (cut_pre s ⟨#[46, 114, 111, 100, 97, 116, 97]⟩ hp hs)
        obtain ⟨R, hR⟩ : ∃ R, s.extract 7 s.size = R := ⟨_, rfl⟩
        rw [hR] at cS
        have hRl : R.data.toList = s.data.toList.drop 7 := by rw [← hR, ext_list, List.take_of_length_le (by rw [data_length]; exact Nat.le_refl _)]
        have hsz : R.size = s.size - 7 := by have := congrArg List.length hRl; rw [data_length, List.length_drop, data_length] at this; exact this
        have hple : 7 ≤ s.size := by have := congrArg List.length hp; rw [List.length_take, data_length] at this; simp at this; omega
        have ht : R.toList = R.data.toList := ByteArray.toList_eq R
        by_cases h0 : R.size = 0
        · have hnil : R.toList = [] := by rw [ht]; exact List.eq_nil_of_length_eq_zero (by rw [data_length]; exact h0)
          have hhd : headIs s.data.toList [46, 114, 111, 100, 97, 116, 97] = true := by
            have : s.size = 7 := by omega
            simp [headIs, hp, data_length, this]
          rw [if_pos hhd] at hkl
          have e1 : (R.toList == ([] : List UInt8)) = true := by rw [hnil]; rfl
          have e2 : (R.toList != ([] : List UInt8)) = false := by rw [hnil]; rfl
          have e3 : R.toList.isEmpty = true := by rw [hnil]; rfl
          obtain ⟨rfl, rfl⟩ := Prod.mk.inj (hres _ hkl.symm (by decide))
          clear hp hR hRl hsz ht h0 hhd hkl hres
          have HN := Aside0.mk hnil
          clear hnil
          go_wp2_with (go_at_call 75; refine (cS _).mono ?_; rintro e W' ⟨rfl, ⟨nd, rfl⟩⟩)
          go_ret2
          exact ⟨rfl, below_draws hbw nd⟩
        · have hnn : ¬ R.toList = [] := by rw [ht]; intro h; exact h0 (by have := congrArg List.length h; rw [data_length] at this; exact this)
          have e1 : (R.toList == ([] : List UInt8)) = false := by simpa using hnn
          have e2 : (R.toList != ([] : List UInt8)) = true := by simpa using hnn
          have e3 : R.toList.isEmpty = false := by simpa using hnn
          have q9 : 0 < R.size := by omega
          have hx9 : ∀ h : 0 < R.size, ((R[0]'h).toNat : Int) = bt R 0 := bt_at R 0
          have hbt : bt R 0 = ((s.data.toList.getD 7 0).toNat : Int) := by
            have h1 := bt_at R 0 q9
            rw [← h1]
            have h2 : (R[0]'q9) = s.data.toList.getD 7 0 := by
              have h3 : s.data.toList.getD 7 0 = R.data.toList.getD 0 0 := by rw [hRl, List.getD_eq_getElem?_getD, List.getD_eq_getElem?_getD, List.getElem?_drop]
              rw [h3, List.getD_eq_getElem?_getD, Array.getElem?_toList, Array.getElem?_eq_getElem (show 0 < R.data.size from q9)]
              rfl
            exact congrArg (fun b : UInt8 => (b.toNat : Int)) h2
          have qi9 : (0 < (R.size : Int)) = True := eq_true (by omega)
          by_cases h46 : bt R 0 = 46
          · have hhd : headIs s.data.toList [46, 114, 111, 100, 97, 116, 97] = true := by
              have h5 : (s.data.toList.getD 7 0).toNat = 46 := by omega
              simp only [headIs, List.length_cons, List.length_nil, Nat.reduceAdd, hp, h5, decide_true, Bool.or_true, Bool.and_true]
            rw [if_pos hhd] at hkl
            have f46 : (bt R 0 == 46) = true := beq_iff_eq.mpr h46
            obtain ⟨rfl, rfl⟩ := Prod.mk.inj (hres _ hkl.symm (by decide))
            clear hp hR hRl hsz ht h0 hhd hkl hres hbt h46 hnn
            replace q9 := eq_true q9
            go_wp2_with (go_at_call 75; refine (cS _).mono ?_; rintro e W' ⟨rfl, ⟨nd, rfl⟩⟩)
            go_ret2
            exact ⟨rfl, below_draws hbw nd⟩
          · have hhd : ¬ headIs s.data.toList [46, 114, 111, 100, 97, 116, 97] = true := by
              have h5 : ¬ (s.data.toList.getD 7 0).toNat = 46 := by omega
              have h6 : ¬ s.data.toList.length = 7 := by rw [data_length]; omega
              simp only [headIs, List.length_cons, List.length_nil, Nat.reduceAdd, hp, h5, h6, decide_true, decide_false, Bool.or_false, Bool.and_false]
              decide
            rw [if_neg hhd] at hkl
            have f46 : (bt R 0 == 46) = false := beq_eq_false_iff_ne.mpr h46
            clear hp hR hRl hsz ht h0 hhd hbt h46 hnn
            replace q9 := eq_true q9
            have HK := Aside0.mk hkl
            have HR := Aside0.mk hres
            clear hkl hres
            go_wp2_with (go_at_call 75; refine (cS _).mono ?_; rintro e W' ⟨rfl, ⟨nd, rfl⟩⟩)
            go_roundg 2
            case measure => omega
            case rel => exact ⟨2, by omega, rfl, HK.out, below_draws hbw nd⟩
      · have cS := fun W => strings_CutPrefix.calls s ⟨#[46, 114, 111, 100, 97, 116, 97]⟩ s false W (cut_not s ⟨#[46, 114, 111, 100, 97, 116, 97]⟩ hp hs)
        have hhd : ¬ headIs s.data.toList [46, 114, 111, 100, 97, 116, 97] = true := by
          simp only [headIs, List.length_cons, List.length_nil, Nat.reduceAdd, hp, decide_false, Bool.false_and]
          decide
        rw [if_neg hhd] at hkl
        clear hp hhd
        have HK := Aside0.mk hkl
        have HR := Aside0.mk hres
        clear hkl hres
        go_wp2_with (go_at_call 75; refine (cS _).mono ?_; rintro e W' ⟨rfl, ⟨nd, rfl⟩⟩)
        go_roundg 2
        case measure => omega
        case rel => exact ⟨2, by omega, rfl, HK.out, below_draws hbw nd⟩
    · -- name 2
      have hix : ∀ W, (Instr.index 110 (.agg #[.string ⟨#[46, 116, 101, 120, 116]⟩, .string ⟨#[46, 114, 111, 100, 97, 116, 97]⟩, .string ⟨#[46, 100, 97, 116, 97]⟩, .string ⟨#[46, 98, 115, 115]⟩]) (.int .i64 2)).run Try.prog W = .ok (.string ⟨#[46, 100, 97, 116, 97]⟩) W := fun W => by kernel_rfl
      have hkl : (if headIs s.data.toList [46, 100, 97, 116, 97] = true then 3 else kindFrom s.data.toList (kindNames.drop 3) 3) = kindOf s.data.toList := hleft
      clear hleft
      by_cases hp : s.data.toList.take 5 = [46, 100, 97, 116, 97]
      · have cS := fun W => strings_CutPrefix.calls s ⟨#[46, 100, 97, 116, 97]⟩ (s.extract 5 s.size) true W (cut_pre s ⟨#[46, 100, 97, 116, 97]⟩ hp hs)
        obtain ⟨R, hR⟩ : ∃ R, s.extract 5 s.size = R := ⟨_, rfl⟩
        rw [hR] at cS
        have hRl : R.data.toList = s.data.toList.drop 5 := by rw [← hR, ext_list, List.take_of_length_le (by rw [data_length]; exact Nat.le_refl _)]
        have hsz : R.size = s.size - 5 := by have := congrArg List.length hRl; rw [data_length, List.length_drop, data_length] at this; exact this
        have hple : 5 ≤ s.size := by have := congrArg List.length hp; rw [List.length_take, data_length] at this; simp at this; omega
        have ht : R.toList = R.data.toList := ByteArray.toList_eq R
        by_cases h0 : R.size = 0
        · have hnil : R.toList = [] := by rw [ht]; exact List.eq_nil_of_length_eq_zero (by rw [data_length]; exact h0)
          have hhd : headIs s.data.toList [46, 100, 97, 116, 97] = true := by
            have : s.size = 5 := by omega
            simp [headIs, hp, data_length, this]
          rw [if_pos hhd] at hkl
          have e1 : (R.toList == ([] : List UInt8)) = true := by rw [hnil]; rfl
          have e2 : (R.toList != ([] : List UInt8)) = false := by rw [hnil]; rfl
          have e3 : R.toList.isEmpty = true := by rw [hnil]; rfl
          obtain ⟨rfl, rfl⟩ := Prod.mk.inj (hres _ hkl.symm (by decide))
          clear hp hR hRl hsz ht h0 hhd hkl hres
          have HN := Aside0.mk hnil
          clear hnil
          go_wp2_with (go_at_call 75; refine (cS _).mono ?_; rintro e W' ⟨rfl, ⟨nd, rfl⟩⟩)
          go_ret2
          exact ⟨rfl, below_draws hbw nd⟩
        · have hnn : ¬ R.toList = [] := by rw [ht]; intro h; exact h0 (by have := congrArg List.length h; rw [data_length] at this; exact this)
          have e1 : (R.toList == ([] : List UInt8)) = false := by simpa using hnn
          have e2 : (R.toList != ([] : List UInt8)) = true := by simpa using hnn
          have e3 : R.toList.isEmpty = false := by simpa using hnn
          have q9 : 0 < R.size := by omega
          have hx9 : ∀ h : 0 < R.size, ((R[0]'h).toNat : Int) = bt R 0 := bt_at R 0
          have hbt : bt R 0 = ((s.data.toList.getD 5 0).toNat : Int) := by
            have h1 := bt_at R 0 q9
            rw [← h1]
            have h2 : (R[0]'q9) = s.data.toList.getD 5 0 := by
              have h3 : s.data.toList.getD 5 0 = R.data.toList.getD 0 0 := by rw [hRl, List.getD_eq_getElem?_getD, List.getD_eq_getElem?_getD, List.getElem?_drop]
              rw [h3, List.getD_eq_getElem?_getD, Array.getElem?_toList, Array.getElem?_eq_getElem (show 0 < R.data.size from q9)]
              rfl
            exact congrArg (fun b : UInt8 => (b.toNat : Int)) h2
          have qi9 : (0 < (R.size : Int)) = True := eq_true (by omega)
          by_cases h46 : bt R 0 = 46
          · have hhd : headIs s.data.toList [46, 100, 97, 116, 97] = true := by
              have h5 : (s.data.toList.getD 5 0).toNat = 46 := by omega
              simp only [headIs, List.length_cons, List.length_nil, Nat.reduceAdd, hp, h5, decide_true, Bool.or_true, Bool.and_true]
            rw [if_pos hhd] at hkl
            have f46 : (bt R 0 == 46) = true := beq_iff_eq.mpr h46
            obtain ⟨rfl, rfl⟩ := Prod.mk.inj (hres _ hkl.symm (by decide))
            clear hp hR hRl hsz ht h0 hhd hkl hres hbt h46 hnn
            replace q9 := eq_true q9
            go_wp2_with (go_at_call 75; refine (cS _).mono ?_; rintro e W' ⟨rfl, ⟨nd, rfl⟩⟩)
            go_ret2
            exact ⟨rfl, below_draws hbw nd⟩
          · have hhd : ¬ headIs s.data.toList [46, 100, 97, 116, 97] = true := by
              have h5 : ¬ (s.data.toList.getD 5 0).toNat = 46 := by omega
              have h6 : ¬ s.data.toList.length = 5 := by rw [data_length]; omega
              simp only [headIs, List.length_cons, List.length_nil, Nat.reduceAdd, hp, h5, h6, decide_true, decide_false, Bool.or_false, Bool.and_false]
              decide
            rw [if_neg hhd] at hkl
            have f46 : (bt R 0 == 46) = false := beq_eq_false_iff_ne.mpr h46
            clear hp hR hRl hsz ht h0 hhd hbt h46 hnn
            replace q9 := eq_true q9
            have HK := Aside0.mk hkl
            have HR := Aside0.mk hres
            clear hkl hres
            go_wp2_with (go_at_call 75; refine (cS _).mono ?_; rintro e W' ⟨rfl, ⟨nd, rfl⟩⟩)
            go_roundg 1
            case measure => omega
            case rel => exact ⟨3, by omega, rfl, HK.out, below_draws hbw nd⟩
      · have cS := fun W => strings_CutPrefix.calls s ⟨#[46, 100, 97, 116, 97]⟩ s false W (cut_not s ⟨#[46, 100, 97, 116, 97]⟩ hp hs)
        have hhd : ¬ headIs s.data.toList [46, 100, 97, 116, 97] = true := by
          simp only [headIs, List.length_cons, List.length_nil, Nat.reduceAdd, hp, decide_false, Bool.false_and]
          decide
        rw [if_neg hhd] at hkl
        clear hp hhd
        have HK := Aside0.mk hkl
        have HR := Aside0.mk hres
        clear hkl hres
        go_wp2_with (go_at_call 75; refine (cS _).mono ?_; rintro e W' ⟨rfl, ⟨nd, rfl⟩⟩)
        go_roundg 1
        case measure => omega
        case rel => exact ⟨3, by omega, rfl, HK.out, below_draws hbw nd⟩
    · -- name 3
      have hix : ∀ W, (Instr.index 110 (.agg #[.string ⟨#[46, 116, 101, 120, 116]⟩, .string ⟨#[46, 114, 111, 100, 97, 116, 97]⟩, .string ⟨#[46, 100, 97, 116, 97]⟩, .string ⟨#[46, 98, 115, 115]⟩]) (.int .i64 3)).run Try.prog W = .ok (.string ⟨#[46, 98, 115, 115]⟩) W := fun W => by kernel_rfl
      have hkl : (if headIs s.data.toList [46, 98, 115, 115] = true then 4 else kindFrom s.data.toList (kindNames.drop 4) 4) = kindOf s.data.toList := hleft
      clear hleft
      by_cases hp : s.data.toList.take 4 = [46, 98, 115, 115]
      · have cS := fun W => strings_CutPrefix.calls s ⟨#[46, 98, 115, 115]⟩ (s.extract 4 s.size) true W (cut_pre s ⟨#[46, 98, 115, 115]⟩ hp hs)
        obtain ⟨R, hR⟩ : ∃ R, s.extract 4 s.size = R := ⟨_, rfl⟩
        rw [hR] at cS
        have hRl : R.data.toList = s.data.toList.drop 4 := by rw [← hR, ext_list, List.take_of_length_le (by rw [data_length]; exact Nat.le_refl _)]
        have hsz : R.size = s.size - 4 := by have := congrArg List.length hRl; rw [data_length, List.length_drop, data_length] at this; exact this
        have hple : 4 ≤ s.size := by have := congrArg List.length hp; rw [List.length_take, data_length] at this; simp at this; omega
        have ht : R.toList = R.data.toList := ByteArray.toList_eq R
        by_cases h0 : R.size = 0
        · have hnil : R.toList = [] := by rw [ht]; exact List.eq_nil_of_length_eq_zero (by rw [data_length]; exact h0)
          have hhd : headIs s.data.toList [46, 98, 115, 115] = true := by
            have : s.size = 4 := by omega
            simp [headIs, hp, data_length, this]
          rw [if_pos hhd] at hkl
          have e1 : (R.toList == ([] : List UInt8)) = true := by rw [hnil]; rfl
          have e2 : (R.toList != ([] : List UInt8)) = false := by rw [hnil]; rfl
          have e3 : R.toList.isEmpty = true := by rw [hnil]; rfl
          obtain ⟨rfl, rfl⟩ := Prod.mk.inj (hres _ hkl.symm (by decide))
          clear hp hR hRl hsz ht h0 hhd hkl hres
          have HN := Aside0.mk hnil
          clear hnil
          go_wp2_with (go_at_call 75; refine (cS _).mono ?_; rintro e W' ⟨rfl, ⟨nd, rfl⟩⟩)
          go_ret2
          exact ⟨rfl, below_draws hbw nd⟩
        · have hnn : ¬ R.toList = [] := by rw [ht]; intro h; exact h0 (by have := congrArg List.length h; rw [data_length] at this; exact this)
          have e1 : (R.toList == ([] : List UInt8)) = false := by simpa using hnn
          have e2 : (R.toList != ([] : List UInt8)) = true := by simpa using hnn
          have e3 : R.toList.isEmpty = false := by simpa using hnn
          have q9 : 0 < R.size := by omega
          have hx9 : ∀ h : 0 < R.size, ((R[0]'h).toNat : Int) = bt R 0 := bt_at R 0
          have hbt : bt R 0 = ((s.data.toList.getD 4 0).toNat : Int) := by
            have h1 := bt_at R 0 q9
            rw [← h1]
            have h2 : (R[0]'q9) = s.data.toList.getD 4 0 := by
              have h3 : s.data.toList.getD 4 0 = R.data.toList.getD 0 0 := by rw [hRl, List.getD_eq_getElem?_getD, List.getD_eq_getElem?_getD, List.getElem?_drop]
              rw [h3, List.getD_eq_getElem?_getD, Array.getElem?_toList, Array.getElem?_eq_getElem (show 0 < R.data.size from q9)]
              rfl
            exact congrArg (fun b : UInt8 => (b.toNat : Int)) h2
          have qi9 : (0 < (R.size : Int)) = True := eq_true (by omega)
          by_cases h46 : bt R 0 = 46
          · have hhd : headIs s.data.toList [46, 98, 115, 115] = true := by
              have h5 : (s.data.toList.getD 4 0).toNat = 46 := by omega
              simp only [headIs, List.length_cons, List.length_nil, Nat.reduceAdd, hp, h5, decide_true, Bool.or_true, Bool.and_true]
            rw [if_pos hhd] at hkl
            have f46 : (bt R 0 == 46) = true := beq_iff_eq.mpr h46
            obtain ⟨rfl, rfl⟩ := Prod.mk.inj (hres _ hkl.symm (by decide))
            clear hp hR hRl hsz ht h0 hhd hkl hres hbt h46 hnn
            replace q9 := eq_true q9
            go_wp2_with (go_at_call 75; refine (cS _).mono ?_; rintro e W' ⟨rfl, ⟨nd, rfl⟩⟩)
            go_ret2
            exact ⟨rfl, below_draws hbw nd⟩
          · have hhd : ¬ headIs s.data.toList [46, 98, 115, 115] = true := by
              have h5 : ¬ (s.data.toList.getD 4 0).toNat = 46 := by omega
              have h6 : ¬ s.data.toList.length = 4 := by rw [data_length]; omega
              simp only [headIs, List.length_cons, List.length_nil, Nat.reduceAdd, hp, h5, h6, decide_true, decide_false, Bool.or_false, Bool.and_false]
              decide
            rw [if_neg hhd] at hkl
            have f46 : (bt R 0 == 46) = false := beq_eq_false_iff_ne.mpr h46
            clear hp hR hRl hsz ht h0 hhd hbt h46 hnn
            replace q9 := eq_true q9
            have HK := Aside0.mk hkl
            have HR := Aside0.mk hres
            clear hkl hres
            go_wp2_with (go_at_call 75; refine (cS _).mono ?_; rintro e W' ⟨rfl, ⟨nd, rfl⟩⟩)
            go_roundg 0
            case measure => omega
            case rel => exact ⟨4, by omega, rfl, HK.out, below_draws hbw nd⟩
      · have cS := fun W => strings_CutPrefix.calls s ⟨#[46, 98, 115, 115]⟩ s false W (cut_not s ⟨#[46, 98, 115, 115]⟩ hp hs)
        have hhd : ¬ headIs s.data.toList [46, 98, 115, 115] = true := by
          simp only [headIs, List.length_cons, List.length_nil, Nat.reduceAdd, hp, decide_false, Bool.false_and]
          decide
        rw [if_neg hhd] at hkl
        clear hp hhd
        have HK := Aside0.mk hkl
        have HR := Aside0.mk hres
        clear hkl hres
        go_wp2_with (go_at_call 75; refine (cS _).mono ?_; rintro e W' ⟨rfl, ⟨nd, rfl⟩⟩)
        go_roundg 0
        case measure => omega
        case rel => exact ⟨4, by omega, rfl, HK.out, below_draws hbw nd⟩
    · -- the names are through
      have h0 : kindOf s.data.toList = 0 := hleft.symm
      obtain ⟨rfl, rfl⟩ := Prod.mk.inj (HO.out h0)
      clear hleft h0 hres
      go_wp2
      go_ret2
      exact ⟨rfl, hbw⟩
set_option maxHeartbeats 4000000 in
set_option maxRecDepth 1000000 in
theorem sect_Kind.calls (a0 : ByteArray) (r1 : Int) (r2 : Int) (w : World) (h : sect_Kind.f a0 = some (r1, r2)) :
    Calls Try.prog 35 #[.string a0] w fun e w' => e = .returned (.tuple #[.int .u8 r1, .int .i64 r2]) ∧ Below w.heap.size w w' := by
  unfold sect_Kind.f kindAns at h
  by_cases hs : a0.size ≤ 9223372036854775807
  · rw [if_pos hs] at h
    have h := Option.some.inj h
    rw [data_length] at h
    by_cases h32 : a0.size ≤ 32
    · cases ha : allIn a0.data.toList with
      | true =>
        refine sect_Kind.rounds a0 w hs h32 ha r1 r2 (fun k hk hne => ?_) (fun h0 => ?_)
        · rw [if_pos ⟨h32, ha, by rw [hk]; exact hne⟩, hk] at h
          exact h
        · rw [if_neg (fun hh => hh.2.2 h0)] at h
          exact h
      | false =>
        rw [if_neg (fun hh => by rw [ha] at hh; cases hh.2.1)] at h
        obtain ⟨rfl, rfl⟩ := Prod.mk.inj h
        have f32 : decide ((32 : Int) < (a0.size : Int)) = false := decide_eq_false (by omega)
        have f32b : decide (32 < a0.size) = false := decide_eq_false (by omega)
        have cC := fun W => contains_odd a0 true ha W
        clear ha h
        go_enter Try.func35, Try.ntmps35
        go_wp2_with (go_at_call 73; refine (cC _).mono ?_; rintro e W' ⟨rfl, hb⟩)
        go_ret2
        exact ⟨rfl, hb⟩
    · rw [if_neg (fun hh => h32 hh.1)] at h
      obtain ⟨rfl, rfl⟩ := Prod.mk.inj h
      have f32 : decide ((32 : Int) < (a0.size : Int)) = true := decide_eq_true (by omega)
      have f32b : decide (32 < a0.size) = true := decide_eq_true (by omega)
      cases ha : allIn a0.data.toList with
      | true =>
        have cC := fun W => contains_odd a0 false ha W
        clear ha h
        go_enter Try.func35, Try.ntmps35
        go_wp2_with (go_at_call 73; refine (cC _).mono ?_; rintro e W' ⟨rfl, hb⟩)
        go_ret2
        exact ⟨rfl, hb⟩
      | false =>
        have cC := fun W => contains_odd a0 true ha W
        clear ha h
        go_enter Try.func35, Try.ntmps35
        go_wp2_with (go_at_call 73; refine (cC _).mono ?_; rintro e W' ⟨rfl, hb⟩)
        go_ret2
        exact ⟨rfl, hb⟩
  · rw [if_neg hs] at h
    cases h

/-! ### quoinlaw09_alive: function 31 -/
def quoinlaw09_alive.f (k : Nat)  : Option (Bool) := (sect_Kind.f (⟨#[46, 100, 97, 116, 97, 46, 120]⟩ : ByteArray)).bind fun bt234 => ((sect_Write.f k 0 0 0 0 0 1 0 0 0 0).bind fun bt236 => (if bt234.2 = 0 then (if bt234.1 = 3 then (if bt236.2 = 0 then (if (bt236.1.length : Int) = 64 then (if 32 < (bt236.1.length : Int) then (some ((rd bt236.1 32) == 1)) else (none)) else (some false)) else (some false)) else (some false)) else (some false)))
theorem quoinlaw09_alive.mono : ∀ k, LeO (quoinlaw09_alive.f k ) (quoinlaw09_alive.f (k + 1) ) := by
  intro  k
  unfold quoinlaw09_alive.f
  repeat' first
      | (with_reducible exact sect_Write.mono _ _ _ _ _ _ _ _ _ _ _)
      | (with_reducible exact LeO.refl _)
      | (with_reducible exact LeO.none _)
      | (with_reducible refine LeO.ite ?_ ?_)
      | (with_reducible refine LeO.bind ?_ (fun _ => ?_))
      | exact sect_Write.mono _ _ _ _ _ _ _ _ _ _ _
      | exact LeO.none _
      | refine LeO.ite ?_ ?_
      | refine LeO.bind ?_ (fun _ => ?_)
set_option maxHeartbeats 8000000 in
set_option maxRecDepth 100000 in
theorem quoinlaw09_alive.calls (k : Nat)  (r : Bool) (w : World) (h : quoinlaw09_alive.f k  = some r) :
    Calls Try.prog 31 #[] w fun e w' => e = .returned (.bool r) ∧ Below w.heap.size w w' := by
  have hu23 := Try.underlying23
  have HB := Aside0.mk (Below.refl w.heap.size w)
  have H : ((sect_Kind.f (⟨#[46, 100, 97, 116, 97, 46, 120]⟩ : ByteArray)).bind fun bt234 => ((sect_Write.f k 0 0 0 0 0 1 0 0 0 0).bind fun bt236 => (if bt234.2 = 0 then (if bt234.1 = 3 then (if bt236.2 = 0 then (if (bt236.1.length : Int) = 64 then (if 32 < (bt236.1.length : Int) then (some ((rd bt236.1 32) == 1)) else (none)) else (some false)) else (some false)) else (some false)) else (some false)))) = some r := h
  clear h
  replace H := Option.bind_eq_some_iff.mp H
  obtain ⟨⟨t234, t235⟩, A10, H⟩ := H
  replace H : ((sect_Write.f k 0 0 0 0 0 1 0 0 0 0).bind fun bt236 => (if t235 = 0 then (if t234 = 3 then (if bt236.2 = 0 then (if (bt236.1.length : Int) = 64 then (if 32 < (bt236.1.length : Int) then (some ((rd bt236.1 32) == 1)) else (none)) else (some false)) else (some false)) else (some false)) else (some false))) = some r := H
  have A1 := Aside0.mk A10
  clear A10
  replace H := Option.bind_eq_some_iff.mp H
  obtain ⟨⟨t236, t239⟩, A20, H⟩ := H
  replace H : (if t235 = 0 then (if t234 = 3 then (if t239 = 0 then (if (t236.length : Int) = 64 then (if 32 < (t236.length : Int) then (some ((rd t236 32) == 1)) else (none)) else (some false)) else (some false)) else (some false)) else (some false)) = some r := H
  have A2 := Aside0.mk A20
  clear A20
  by_cases c3 : t235 = 0
  · rw [if_pos c3] at H
    have c3b0 : (t235 == 0) = true := beq_iff_eq.mpr c3
    have c3b1 : (t235 != 0) = false := bne_eq_false_iff_eq.mpr c3
    clear c3
    by_cases c4 : t234 = 3
    · rw [if_pos c4] at H
      have c4b0 : (t234 == 3) = true := beq_iff_eq.mpr c4
      have c4b1 : (t234 != 3) = false := bne_eq_false_iff_eq.mpr c4
      clear c4
      by_cases c5 : t239 = 0
      · rw [if_pos c5] at H
        have c5b0 : (t239 == 0) = true := beq_iff_eq.mpr c5
        have c5b1 : (t239 != 0) = false := bne_eq_false_iff_eq.mpr c5
        clear c5
        by_cases c6 : (t236.length : Int) = 64
        · rw [if_pos c6] at H
          have c6b0 : ((t236.length : Int) == 64) = true := beq_iff_eq.mpr c6
          have c6b1 : ((t236.length : Int) != 64) = false := bne_eq_false_iff_eq.mpr c6
          clear c6
          by_cases c7 : 32 < (t236.length : Int)
          · rw [if_pos c7] at H
            have c7b0 : decide (32 < (t236.length : Int)) = true := decide_eq_true c7
            have c7b1 : decide (32 < t236.length) = true := decide_eq_true (by omega)
            clear c7
            obtain rfl := Option.some.inj H
            go_enter Try.func31, Try.ntmps31
            go_wp2_with (first | ((with_reducible refine gate_callee (f := 35) rfl ?_); refine goesL_ (some 6) rfl rfl Try.func35 (by kernel_rfl) rfl #[.string (⟨#[46, 100, 97, 116, 97, 46, 120]⟩ : ByteArray)] rfl (by (try simp only [List.map_toArray, List.map_cons, List.map_nil]); first | done | rfl | (simp only [List.length_drop, List.length_take]; rfl)) ?_; (with_reducible refine (sect_Kind.calls (⟨#[46, 100, 97, 116, 97, 46, 120]⟩ : ByteArray) t234 t235 _ A1.out).mono ?_); rintro e w8 ⟨rfl, hb⟩; refine ⟨_, rfl, ?_⟩; have n0_ := Aside0.mk (below_step (by repeat (first | (with_reducible first | exact HB.out | apply below_alloc | apply pw_below_drewN | apply below_drew1) | exact HB.out)) hb); clear HB; have HB := n0_; clear n0_; (try clear hb); (try clear hb2); (try clear hk); (try clear hi)) | ((with_reducible refine gate_callee (f := 27) rfl ?_); refine goesL_ (some 11) rfl rfl Try.func27 (by kernel_rfl) rfl #[.agg #[.int .i64 0, .int .i64 0, .int .i64 0, .int .i64 0, .int .i64 0, .int .i64 1, .int .i64 0, .int .i64 0, .int .i64 0, .int .i64 0]] rfl (by (try simp only [List.map_toArray, List.map_cons, List.map_nil]); first | done | rfl | (simp only [List.length_drop, List.length_take]; rfl)) ?_; (with_reducible refine (sect_Write.calls k 0 0 0 0 0 1 0 0 0 0 t236 t239 _ A2.out).mono ?_); rintro e w9 ⟨v237, rfl, ho0, hb⟩; refine ⟨_, rfl, ?_⟩; have n0_ := Aside0.mk (Kd.R_lower ho0 (below_size (by repeat (first | (with_reducible first | exact HB.out | apply below_alloc | apply pw_below_drewN | apply below_drew1) | exact HB.out)))); have n1_ := Aside0.mk (below_step (by repeat (first | (with_reducible first | exact HB.out | apply below_alloc | apply pw_below_drewN | apply below_drew1) | exact HB.out)) hb); clear HB; have HO238 := n0_; have HB := n1_; clear n0_ n1_; (try clear hb); (try clear hb2); (try clear hk); (try clear hi); (try clear ho0); obtain ⟨Ao10, co10, eo10⟩ := Kd.R_slice HO238.out; subst eo10; have p240 : 0 ≤ (32 : Int) := (by omega); have q240 : 32 < (t236.length : Int) := of_decide_eq_true (by first | (with_reducible assumption) | assumption); obtain ⟨ad240, e240, hx240_0⟩ := Kd.at_int (Kd.R_reads' HO238.out).2.2 32 p240 q240; cases e240; (try simp only [show (32 : Int).toNat = 32 from rfl, Nat.reduceMul, Nat.reduceEqDiff, Go.Addr.add, ↓reduceIte] at hx240_0); have qi240 : (32 < t236.length) = True := eq_true (by omega); (try rw [show ((32 : Int)).toNat = 32 from rfl] at hx240_0); replace p240 := eq_true p240; replace q240 := eq_true q240))
            go_ret
            exact ⟨by first | rfl | (simp [errW_none, errW_some] <;> rfl) | (simp [*, errW_none, errW_some] <;> rfl), by repeat (first | (with_reducible first | exact HB.out | apply below_alloc | apply pw_below_drewN | apply below_drew1) | exact HB.out)⟩
          · rw [if_neg c7] at H
            exact absurd H (by simp)
        · rw [if_neg c6] at H
          have c6b0 : ((t236.length : Int) == 64) = false := beq_eq_false_iff_ne.mpr c6
          have c6b1 : ((t236.length : Int) != 64) = true := bne_iff_ne.mpr c6
          obtain rfl := Option.some.inj H
          go_enter Try.func31, Try.ntmps31
          go_wp2_with (first | ((with_reducible refine gate_callee (f := 35) rfl ?_); refine goesL_ (some 6) rfl rfl Try.func35 (by kernel_rfl) rfl #[.string (⟨#[46, 100, 97, 116, 97, 46, 120]⟩ : ByteArray)] rfl (by (try simp only [List.map_toArray, List.map_cons, List.map_nil]); first | done | rfl | (simp only [List.length_drop, List.length_take]; rfl)) ?_; (with_reducible refine (sect_Kind.calls (⟨#[46, 100, 97, 116, 97, 46, 120]⟩ : ByteArray) t234 t235 _ A1.out).mono ?_); rintro e w11 ⟨rfl, hb⟩; refine ⟨_, rfl, ?_⟩; have n0_ := Aside0.mk (below_step (by repeat (first | (with_reducible first | exact HB.out | apply below_alloc | apply pw_below_drewN | apply below_drew1) | exact HB.out)) hb); clear HB; have HB := n0_; clear n0_; (try clear hb); (try clear hb2); (try clear hk); (try clear hi)) | ((with_reducible refine gate_callee (f := 27) rfl ?_); refine goesL_ (some 11) rfl rfl Try.func27 (by kernel_rfl) rfl #[.agg #[.int .i64 0, .int .i64 0, .int .i64 0, .int .i64 0, .int .i64 0, .int .i64 1, .int .i64 0, .int .i64 0, .int .i64 0, .int .i64 0]] rfl (by (try simp only [List.map_toArray, List.map_cons, List.map_nil]); first | done | rfl | (simp only [List.length_drop, List.length_take]; rfl)) ?_; (with_reducible refine (sect_Write.calls k 0 0 0 0 0 1 0 0 0 0 t236 t239 _ A2.out).mono ?_); rintro e w12 ⟨v237, rfl, ho0, hb⟩; refine ⟨_, rfl, ?_⟩; have n0_ := Aside0.mk (Kd.R_lower ho0 (below_size (by repeat (first | (with_reducible first | exact HB.out | apply below_alloc | apply pw_below_drewN | apply below_drew1) | exact HB.out)))); have n1_ := Aside0.mk (below_step (by repeat (first | (with_reducible first | exact HB.out | apply below_alloc | apply pw_below_drewN | apply below_drew1) | exact HB.out)) hb); clear HB; have HO238 := n0_; have HB := n1_; clear n0_ n1_; (try clear hb); (try clear hb2); (try clear hk); (try clear hi); (try clear ho0); obtain ⟨Ao13, co13, eo13⟩ := Kd.R_slice HO238.out; subst eo13))
          go_ret
          exact ⟨by first | rfl | (simp [errW_none, errW_some] <;> rfl) | (simp [*, errW_none, errW_some] <;> rfl), by repeat (first | (with_reducible first | exact HB.out | apply below_alloc | apply pw_below_drewN | apply below_drew1) | exact HB.out)⟩
      · rw [if_neg c5] at H
        have c5b0 : (t239 == 0) = false := beq_eq_false_iff_ne.mpr c5
        have c5b1 : (t239 != 0) = true := bne_iff_ne.mpr c5
        obtain rfl := Option.some.inj H
        go_enter Try.func31, Try.ntmps31
        go_wp2_with (first | ((with_reducible refine gate_callee (f := 35) rfl ?_); refine goesL_ (some 6) rfl rfl Try.func35 (by kernel_rfl) rfl #[.string (⟨#[46, 100, 97, 116, 97, 46, 120]⟩ : ByteArray)] rfl (by (try simp only [List.map_toArray, List.map_cons, List.map_nil]); first | done | rfl | (simp only [List.length_drop, List.length_take]; rfl)) ?_; (with_reducible refine (sect_Kind.calls (⟨#[46, 100, 97, 116, 97, 46, 120]⟩ : ByteArray) t234 t235 _ A1.out).mono ?_); rintro e w14 ⟨rfl, hb⟩; refine ⟨_, rfl, ?_⟩; have n0_ := Aside0.mk (below_step (by repeat (first | (with_reducible first | exact HB.out | apply below_alloc | apply pw_below_drewN | apply below_drew1) | exact HB.out)) hb); clear HB; have HB := n0_; clear n0_; (try clear hb); (try clear hb2); (try clear hk); (try clear hi)) | ((with_reducible refine gate_callee (f := 27) rfl ?_); refine goesL_ (some 11) rfl rfl Try.func27 (by kernel_rfl) rfl #[.agg #[.int .i64 0, .int .i64 0, .int .i64 0, .int .i64 0, .int .i64 0, .int .i64 1, .int .i64 0, .int .i64 0, .int .i64 0, .int .i64 0]] rfl (by (try simp only [List.map_toArray, List.map_cons, List.map_nil]); first | done | rfl | (simp only [List.length_drop, List.length_take]; rfl)) ?_; (with_reducible refine (sect_Write.calls k 0 0 0 0 0 1 0 0 0 0 t236 t239 _ A2.out).mono ?_); rintro e w15 ⟨v237, rfl, ho0, hb⟩; refine ⟨_, rfl, ?_⟩; have n0_ := Aside0.mk (Kd.R_lower ho0 (below_size (by repeat (first | (with_reducible first | exact HB.out | apply below_alloc | apply pw_below_drewN | apply below_drew1) | exact HB.out)))); have n1_ := Aside0.mk (below_step (by repeat (first | (with_reducible first | exact HB.out | apply below_alloc | apply pw_below_drewN | apply below_drew1) | exact HB.out)) hb); clear HB; have HO238 := n0_; have HB := n1_; clear n0_ n1_; (try clear hb); (try clear hb2); (try clear hk); (try clear hi); (try clear ho0)))
        go_ret
        exact ⟨by first | rfl | (simp [errW_none, errW_some] <;> rfl) | (simp [*, errW_none, errW_some] <;> rfl), by repeat (first | (with_reducible first | exact HB.out | apply below_alloc | apply pw_below_drewN | apply below_drew1) | exact HB.out)⟩
    · rw [if_neg c4] at H
      have c4b0 : (t234 == 3) = false := beq_eq_false_iff_ne.mpr c4
      have c4b1 : (t234 != 3) = true := bne_iff_ne.mpr c4
      obtain rfl := Option.some.inj H
      go_enter Try.func31, Try.ntmps31
      go_wp2_with (first | ((with_reducible refine gate_callee (f := 35) rfl ?_); refine goesL_ (some 6) rfl rfl Try.func35 (by kernel_rfl) rfl #[.string (⟨#[46, 100, 97, 116, 97, 46, 120]⟩ : ByteArray)] rfl (by (try simp only [List.map_toArray, List.map_cons, List.map_nil]); first | done | rfl | (simp only [List.length_drop, List.length_take]; rfl)) ?_; (with_reducible refine (sect_Kind.calls (⟨#[46, 100, 97, 116, 97, 46, 120]⟩ : ByteArray) t234 t235 _ A1.out).mono ?_); rintro e w16 ⟨rfl, hb⟩; refine ⟨_, rfl, ?_⟩; have n0_ := Aside0.mk (below_step (by repeat (first | (with_reducible first | exact HB.out | apply below_alloc | apply pw_below_drewN | apply below_drew1) | exact HB.out)) hb); clear HB; have HB := n0_; clear n0_; (try clear hb); (try clear hb2); (try clear hk); (try clear hi)) | ((with_reducible refine gate_callee (f := 27) rfl ?_); refine goesL_ (some 11) rfl rfl Try.func27 (by kernel_rfl) rfl #[.agg #[.int .i64 0, .int .i64 0, .int .i64 0, .int .i64 0, .int .i64 0, .int .i64 1, .int .i64 0, .int .i64 0, .int .i64 0, .int .i64 0]] rfl (by (try simp only [List.map_toArray, List.map_cons, List.map_nil]); first | done | rfl | (simp only [List.length_drop, List.length_take]; rfl)) ?_; (with_reducible refine (sect_Write.calls k 0 0 0 0 0 1 0 0 0 0 t236 t239 _ A2.out).mono ?_); rintro e w17 ⟨v237, rfl, ho0, hb⟩; refine ⟨_, rfl, ?_⟩; have n0_ := Aside0.mk (Kd.R_lower ho0 (below_size (by repeat (first | (with_reducible first | exact HB.out | apply below_alloc | apply pw_below_drewN | apply below_drew1) | exact HB.out)))); have n1_ := Aside0.mk (below_step (by repeat (first | (with_reducible first | exact HB.out | apply below_alloc | apply pw_below_drewN | apply below_drew1) | exact HB.out)) hb); clear HB; have HO238 := n0_; have HB := n1_; clear n0_ n1_; (try clear hb); (try clear hb2); (try clear hk); (try clear hi); (try clear ho0)))
      go_ret
      exact ⟨by first | rfl | (simp [errW_none, errW_some] <;> rfl) | (simp [*, errW_none, errW_some] <;> rfl), by repeat (first | (with_reducible first | exact HB.out | apply below_alloc | apply pw_below_drewN | apply below_drew1) | exact HB.out)⟩
  · rw [if_neg c3] at H
    have c3b0 : (t235 == 0) = false := beq_eq_false_iff_ne.mpr c3
    have c3b1 : (t235 != 0) = true := bne_iff_ne.mpr c3
    obtain rfl := Option.some.inj H
    go_enter Try.func31, Try.ntmps31
    go_wp2_with (first | ((with_reducible refine gate_callee (f := 35) rfl ?_); refine goesL_ (some 6) rfl rfl Try.func35 (by kernel_rfl) rfl #[.string (⟨#[46, 100, 97, 116, 97, 46, 120]⟩ : ByteArray)] rfl (by (try simp only [List.map_toArray, List.map_cons, List.map_nil]); first | done | rfl | (simp only [List.length_drop, List.length_take]; rfl)) ?_; (with_reducible refine (sect_Kind.calls (⟨#[46, 100, 97, 116, 97, 46, 120]⟩ : ByteArray) t234 t235 _ A1.out).mono ?_); rintro e w18 ⟨rfl, hb⟩; refine ⟨_, rfl, ?_⟩; have n0_ := Aside0.mk (below_step (by repeat (first | (with_reducible first | exact HB.out | apply below_alloc | apply pw_below_drewN | apply below_drew1) | exact HB.out)) hb); clear HB; have HB := n0_; clear n0_; (try clear hb); (try clear hb2); (try clear hk); (try clear hi)) | ((with_reducible refine gate_callee (f := 27) rfl ?_); refine goesL_ (some 11) rfl rfl Try.func27 (by kernel_rfl) rfl #[.agg #[.int .i64 0, .int .i64 0, .int .i64 0, .int .i64 0, .int .i64 0, .int .i64 1, .int .i64 0, .int .i64 0, .int .i64 0, .int .i64 0]] rfl (by (try simp only [List.map_toArray, List.map_cons, List.map_nil]); first | done | rfl | (simp only [List.length_drop, List.length_take]; rfl)) ?_; (with_reducible refine (sect_Write.calls k 0 0 0 0 0 1 0 0 0 0 t236 t239 _ A2.out).mono ?_); rintro e w19 ⟨v237, rfl, ho0, hb⟩; refine ⟨_, rfl, ?_⟩; have n0_ := Aside0.mk (Kd.R_lower ho0 (below_size (by repeat (first | (with_reducible first | exact HB.out | apply below_alloc | apply pw_below_drewN | apply below_drew1) | exact HB.out)))); have n1_ := Aside0.mk (below_step (by repeat (first | (with_reducible first | exact HB.out | apply below_alloc | apply pw_below_drewN | apply below_drew1) | exact HB.out)) hb); clear HB; have HO238 := n0_; have HB := n1_; clear n0_ n1_; (try clear hb); (try clear hb2); (try clear hk); (try clear hi); (try clear ho0)))
    go_ret
    exact ⟨by first | rfl | (simp [errW_none, errW_some] <;> rfl) | (simp [*, errW_none, errW_some] <;> rfl), by repeat (first | (with_reducible first | exact HB.out | apply below_alloc | apply pw_below_drewN | apply below_drew1) | exact HB.out)⟩

/-! ### sect_Same: function 32 -/
def sect_Same.f (a0_0 : ByteArray) (a0_1 : Int) (l0_2 : List Int) (a0_3 : Int) (a1_0 : ByteArray) (a1_1 : Int) (l1_2 : List Int) (a1_3 : Int) : Option (Bool) := if a0_0.toList = a1_0.toList then (if a0_1 = a1_1 then (if (strOfNums l0_2).toList = (strOfNums l1_2).toList then (some (a0_3 == a1_3)) else (some false)) else (some false)) else (some false)
set_option maxHeartbeats 8000000 in
set_option maxRecDepth 100000 in
theorem sect_Same.calls (a0_0 : ByteArray) (a0_1 : Int) (A0_2 : Option Addr) (c0_2 : Nat) (l0_2 : List Int) (a0_3 : Int) (a1_0 : ByteArray) (a1_1 : Int) (A1_2 : Option Addr) (c1_2 : Nat) (l1_2 : List Int) (a1_3 : Int) (r : Bool) (w : World) (hr0_2 : Kd.C (Kd.int .u8) w A0_2 l0_2.length l0_2) (hc0_2 : l0_2.length ≤ c0_2) (hr1_2 : Kd.C (Kd.int .u8) w A1_2 l1_2.length l1_2) (hc1_2 : l1_2.length ≤ c1_2) (h : sect_Same.f a0_0 a0_1 l0_2 a0_3 a1_0 a1_1 l1_2 a1_3 = some r) :
    Calls Try.prog 32 #[.agg #[.string a0_0, .int .i64 a0_1, .slice A0_2 l0_2.length c0_2, .int .i64 a0_3], .agg #[.string a1_0, .int .i64 a1_1, .slice A1_2 l1_2.length c1_2, .int .i64 a1_3]] w fun e w' => e = .returned (.bool r) ∧ Below w.heap.size w w' := by
  have hu36 := Try.underlying36
  have HR0_2 := Aside0.mk hr0_2
  have HC0_2 := Aside0.mk hc0_2
  clear hr0_2 hc0_2
  have HR1_2 := Aside0.mk hr1_2
  have HC1_2 := Aside0.mk hc1_2
  clear hr1_2 hc1_2
  have HB := Aside0.mk (Below.refl w.heap.size w)
  have H : (if a0_0.toList = a1_0.toList then (if a0_1 = a1_1 then (if (strOfNums l0_2).toList = (strOfNums l1_2).toList then (some (a0_3 == a1_3)) else (some false)) else (some false)) else (some false)) = some r := h
  clear h
  by_cases c3 : a0_0.toList = a1_0.toList
  · rw [if_pos c3] at H
    have c3b0 : (a0_0.toList == a1_0.toList) = true := beq_iff_eq.mpr c3
    have c3b1 : (a0_0.toList != a1_0.toList) = false := bne_eq_false_iff_eq.mpr c3
    clear c3
    by_cases c4 : a0_1 = a1_1
    · rw [if_pos c4] at H
      have c4b0 : (a0_1 == a1_1) = true := beq_iff_eq.mpr c4
      have c4b1 : (a0_1 != a1_1) = false := bne_eq_false_iff_eq.mpr c4
      clear c4
      by_cases c5 : (strOfNums l0_2).toList = (strOfNums l1_2).toList
      · rw [if_pos c5] at H
        have c5b0 : ((strOfNums l0_2).toList == (strOfNums l1_2).toList) = true := beq_iff_eq.mpr c5
        have c5b1 : ((strOfNums l0_2).toList != (strOfNums l1_2).toList) = false := bne_eq_false_iff_eq.mpr c5
        clear c5
        obtain rfl := Option.some.inj H
        go_enter Try.func32, Try.ntmps32
        go_wp2_with (first | ((with_reducible refine gate_dst (N := 2) rfl ?_); refine box_event ?hg (N := 2) ?hd (cs := #[.string a0_0, .int .i64 a0_1, .slice A0_2 l0_2.length c0_2, .int .i64 a0_3]) (t := 36) ?hr ?_; (case hd => rfl); (case hg => rfl); (case hr => first | (go_simp; done) | (go_simp; rfl)); intro gb241 hg w6 hbox hb; have n0_ := Aside0.mk (below_step (by repeat (first | (with_reducible first | exact HB.out | apply below_alloc | apply pw_below_drewN | apply below_drew1) | exact HB.out)) hb); have n1_ := Aside0.mk (hbox); have n2_ := Aside0.mk ((by rw [hg]; exact (below_size (by repeat (first | (with_reducible first | exact HB.out | apply below_alloc | apply pw_below_drewN | apply below_drew1) | exact HB.out))) : w.heap.size ≤ gb241)); have n3_ := Aside0.mk ((by rw [hg]; exact (below_size (by repeat (first | (with_reducible first | exact HB.out | apply below_alloc | apply pw_below_drewN | apply below_drew1) | exact HB.out))) : w.heap.size ≤ gb241)); clear HB; have HB := n0_; have BK241 := n1_; have GW241 := n2_; have GE241 := n3_; clear n0_ n1_ n2_ n3_; clear hb hbox hg) | ((with_reducible refine gate_dst (N := 3) rfl ?_); refine box_event ?hg (N := 3) ?hd (cs := #[.string a1_0, .int .i64 a1_1, .slice A1_2 l1_2.length c1_2, .int .i64 a1_3]) (t := 36) ?hr ?_; (case hd => rfl); (case hg => rfl); (case hr => first | (go_simp; done) | (go_simp; rfl)); intro gb242 hg w7 hbox hb; have n0_ := Aside0.mk (blk_below (g := gb241) (o := .cells #[.string a0_0, .int .i64 a0_1, .slice A0_2 l0_2.length c0_2, .int .i64 a0_3] 36 (0, 0)) (by (with_reducible repeat (first | refine blk_drewN ?_ _ | refine blk_drew ?_ | refine blk_alloc ?_ _)); exact BK241.out) hb); have n1_ := Aside0.mk (below_step (by repeat (first | (with_reducible first | exact HB.out | apply below_alloc | apply pw_below_drewN | apply below_drew1 | refine below_set ?_ GE241.out) | exact HB.out)) hb); have n2_ := Aside0.mk (hbox); have n3_ := Aside0.mk ((by rw [hg]; exact (below_size (by repeat (first | (with_reducible first | exact HB.out | apply below_alloc | apply pw_below_drewN | apply below_drew1 | refine below_set ?_ GE241.out) | exact HB.out))) : w.heap.size ≤ gb242)); have n4_ := Aside0.mk ((by rw [hg]; exact (below_size (by repeat (first | (with_reducible first | exact HB.out | apply below_alloc | apply pw_below_drewN | apply below_drew1 | refine below_set ?_ GE241.out) | exact HB.out))) : w.heap.size ≤ gb242)); have n5_ := Aside0.mk ((by rw [hg]; exact Nat.ne_of_lt (blk_lt (g := gb241) (o := .cells #[.string a0_0, .int .i64 a0_1, .slice A0_2 l0_2.length c0_2, .int .i64 a0_3] 36 (0, 0)) (by (with_reducible repeat (first | refine blk_drewN ?_ _ | refine blk_drew ?_ | refine blk_alloc ?_ _)); exact BK241.out)) : gb241 ≠ gb242)); have n6_ := Aside0.mk ((by rw [hg]; exact Nat.ne_of_gt (blk_lt (g := gb241) (o := .cells #[.string a0_0, .int .i64 a0_1, .slice A0_2 l0_2.length c0_2, .int .i64 a0_3] 36 (0, 0)) (by (with_reducible repeat (first | refine blk_drewN ?_ _ | refine blk_drew ?_ | refine blk_alloc ?_ _)); exact BK241.out)) : gb242 ≠ gb241)); clear BK241; clear HB; have BK241 := n0_; have HB := n1_; have BK242 := n2_; have GW242 := n3_; have GE242 := n4_; have NB241_242 := n5_; have NB242_241 := n6_; clear n0_ n1_ n2_ n3_ n4_ n5_ n6_; clear hb hbox hg; have hnb8 := NB241_242.out; have hnc8 := NB242_241.out; have hcz9_0 : w7.cell? ⟨gb241, 0, none⟩ = some (.string a0_0) := (blk_cell BK241.out 0).trans rfl; have hcz9_1 : w7.cell? ⟨gb241, 1, none⟩ = some (.int .i64 a0_1) := (blk_cell BK241.out 1).trans rfl; have hcz9_2 : w7.cell? ⟨gb241, 2, none⟩ = some (.slice A0_2 l0_2.length c0_2) := (blk_cell BK241.out 2).trans rfl; have hcz9_3 : w7.cell? ⟨gb241, 3, none⟩ = some (.int .i64 a0_3) := (blk_cell BK241.out 3).trans rfl; have hfz9_0 := blk_frozen BK241.out 0; have hfz9_1 := blk_frozen BK241.out 1; have hfz9_2 := blk_frozen BK241.out 2; have hfz9_3 := blk_frozen BK241.out 3; have hcz10_0 : w7.cell? ⟨gb242, 0, none⟩ = some (.string a1_0) := (blk_cell BK242.out 0).trans rfl; have hcz10_1 : w7.cell? ⟨gb242, 1, none⟩ = some (.int .i64 a1_1) := (blk_cell BK242.out 1).trans rfl; have hcz10_2 : w7.cell? ⟨gb242, 2, none⟩ = some (.slice A1_2 l1_2.length c1_2) := (blk_cell BK242.out 2).trans rfl; have hcz10_3 : w7.cell? ⟨gb242, 3, none⟩ = some (.int .i64 a1_3) := (blk_cell BK242.out 3).trans rfl; have hfz10_0 := blk_frozen BK242.out 0; have hfz10_1 := blk_frozen BK242.out 1; have hfz10_2 := blk_frozen BK242.out 2; have hfz10_3 := blk_frozen BK242.out 3; have hcv11 := Kd.C_string (P := Try.prog) (A := A0_2) (c := c0_2) Try.underlying24 Try.underlying5 Try.underlying9 (Kd.C_below HR0_2.out HB.out); have hcv12 := fun n_ : Nat => Kd.C_string (P := Try.prog) (A := A0_2) (c := c0_2) Try.underlying24 Try.underlying5 Try.underlying9 (Kd.C_drewN (Kd.C_below HR0_2.out HB.out) n_); have hcv13 := Kd.C_string (P := Try.prog) (A := A1_2) (c := c1_2) Try.underlying24 Try.underlying5 Try.underlying9 (Kd.C_below HR1_2.out HB.out); have hcv14 := fun n_ : Nat => Kd.C_string (P := Try.prog) (A := A1_2) (c := c1_2) Try.underlying24 Try.underlying5 Try.underlying9 (Kd.C_drewN (Kd.C_below HR1_2.out HB.out) n_)))
        go_ret
        exact ⟨by first | rfl | (simp [errW_none, errW_some] <;> rfl) | (simp [*, errW_none, errW_some] <;> rfl), by repeat (first | (with_reducible first | exact HB.out | apply below_alloc | apply pw_below_drewN | apply below_drew1 | refine below_set ?_ GE241.out | refine below_set ?_ GE242.out) | exact HB.out)⟩
      · rw [if_neg c5] at H
        have c5b0 : ((strOfNums l0_2).toList == (strOfNums l1_2).toList) = false := beq_eq_false_iff_ne.mpr c5
        have c5b1 : ((strOfNums l0_2).toList != (strOfNums l1_2).toList) = true := bne_iff_ne.mpr c5
        obtain rfl := Option.some.inj H
        go_enter Try.func32, Try.ntmps32
        go_wp2_with (first | ((with_reducible refine gate_dst (N := 2) rfl ?_); refine box_event ?hg (N := 2) ?hd (cs := #[.string a0_0, .int .i64 a0_1, .slice A0_2 l0_2.length c0_2, .int .i64 a0_3]) (t := 36) ?hr ?_; (case hd => rfl); (case hg => rfl); (case hr => first | (go_simp; done) | (go_simp; rfl)); intro gb241 hg w15 hbox hb; have n0_ := Aside0.mk (below_step (by repeat (first | (with_reducible first | exact HB.out | apply below_alloc | apply pw_below_drewN | apply below_drew1) | exact HB.out)) hb); have n1_ := Aside0.mk (hbox); have n2_ := Aside0.mk ((by rw [hg]; exact (below_size (by repeat (first | (with_reducible first | exact HB.out | apply below_alloc | apply pw_below_drewN | apply below_drew1) | exact HB.out))) : w.heap.size ≤ gb241)); have n3_ := Aside0.mk ((by rw [hg]; exact (below_size (by repeat (first | (with_reducible first | exact HB.out | apply below_alloc | apply pw_below_drewN | apply below_drew1) | exact HB.out))) : w.heap.size ≤ gb241)); clear HB; have HB := n0_; have BK241 := n1_; have GW241 := n2_; have GE241 := n3_; clear n0_ n1_ n2_ n3_; clear hb hbox hg) | ((with_reducible refine gate_dst (N := 3) rfl ?_); refine box_event ?hg (N := 3) ?hd (cs := #[.string a1_0, .int .i64 a1_1, .slice A1_2 l1_2.length c1_2, .int .i64 a1_3]) (t := 36) ?hr ?_; (case hd => rfl); (case hg => rfl); (case hr => first | (go_simp; done) | (go_simp; rfl)); intro gb242 hg w16 hbox hb; have n0_ := Aside0.mk (blk_below (g := gb241) (o := .cells #[.string a0_0, .int .i64 a0_1, .slice A0_2 l0_2.length c0_2, .int .i64 a0_3] 36 (0, 0)) (by (with_reducible repeat (first | refine blk_drewN ?_ _ | refine blk_drew ?_ | refine blk_alloc ?_ _)); exact BK241.out) hb); have n1_ := Aside0.mk (below_step (by repeat (first | (with_reducible first | exact HB.out | apply below_alloc | apply pw_below_drewN | apply below_drew1 | refine below_set ?_ GE241.out) | exact HB.out)) hb); have n2_ := Aside0.mk (hbox); have n3_ := Aside0.mk ((by rw [hg]; exact (below_size (by repeat (first | (with_reducible first | exact HB.out | apply below_alloc | apply pw_below_drewN | apply below_drew1 | refine below_set ?_ GE241.out) | exact HB.out))) : w.heap.size ≤ gb242)); have n4_ := Aside0.mk ((by rw [hg]; exact (below_size (by repeat (first | (with_reducible first | exact HB.out | apply below_alloc | apply pw_below_drewN | apply below_drew1 | refine below_set ?_ GE241.out) | exact HB.out))) : w.heap.size ≤ gb242)); have n5_ := Aside0.mk ((by rw [hg]; exact Nat.ne_of_lt (blk_lt (g := gb241) (o := .cells #[.string a0_0, .int .i64 a0_1, .slice A0_2 l0_2.length c0_2, .int .i64 a0_3] 36 (0, 0)) (by (with_reducible repeat (first | refine blk_drewN ?_ _ | refine blk_drew ?_ | refine blk_alloc ?_ _)); exact BK241.out)) : gb241 ≠ gb242)); have n6_ := Aside0.mk ((by rw [hg]; exact Nat.ne_of_gt (blk_lt (g := gb241) (o := .cells #[.string a0_0, .int .i64 a0_1, .slice A0_2 l0_2.length c0_2, .int .i64 a0_3] 36 (0, 0)) (by (with_reducible repeat (first | refine blk_drewN ?_ _ | refine blk_drew ?_ | refine blk_alloc ?_ _)); exact BK241.out)) : gb242 ≠ gb241)); clear BK241; clear HB; have BK241 := n0_; have HB := n1_; have BK242 := n2_; have GW242 := n3_; have GE242 := n4_; have NB241_242 := n5_; have NB242_241 := n6_; clear n0_ n1_ n2_ n3_ n4_ n5_ n6_; clear hb hbox hg; have hnb17 := NB241_242.out; have hnc17 := NB242_241.out; have hcz18_0 : w16.cell? ⟨gb241, 0, none⟩ = some (.string a0_0) := (blk_cell BK241.out 0).trans rfl; have hcz18_1 : w16.cell? ⟨gb241, 1, none⟩ = some (.int .i64 a0_1) := (blk_cell BK241.out 1).trans rfl; have hcz18_2 : w16.cell? ⟨gb241, 2, none⟩ = some (.slice A0_2 l0_2.length c0_2) := (blk_cell BK241.out 2).trans rfl; have hcz18_3 : w16.cell? ⟨gb241, 3, none⟩ = some (.int .i64 a0_3) := (blk_cell BK241.out 3).trans rfl; have hfz18_0 := blk_frozen BK241.out 0; have hfz18_1 := blk_frozen BK241.out 1; have hfz18_2 := blk_frozen BK241.out 2; have hfz18_3 := blk_frozen BK241.out 3; have hcz19_0 : w16.cell? ⟨gb242, 0, none⟩ = some (.string a1_0) := (blk_cell BK242.out 0).trans rfl; have hcz19_1 : w16.cell? ⟨gb242, 1, none⟩ = some (.int .i64 a1_1) := (blk_cell BK242.out 1).trans rfl; have hcz19_2 : w16.cell? ⟨gb242, 2, none⟩ = some (.slice A1_2 l1_2.length c1_2) := (blk_cell BK242.out 2).trans rfl; have hcz19_3 : w16.cell? ⟨gb242, 3, none⟩ = some (.int .i64 a1_3) := (blk_cell BK242.out 3).trans rfl; have hfz19_0 := blk_frozen BK242.out 0; have hfz19_1 := blk_frozen BK242.out 1; have hfz19_2 := blk_frozen BK242.out 2; have hfz19_3 := blk_frozen BK242.out 3; have hcv20 := Kd.C_string (P := Try.prog) (A := A0_2) (c := c0_2) Try.underlying24 Try.underlying5 Try.underlying9 (Kd.C_below HR0_2.out HB.out); have hcv21 := fun n_ : Nat => Kd.C_string (P := Try.prog) (A := A0_2) (c := c0_2) Try.underlying24 Try.underlying5 Try.underlying9 (Kd.C_drewN (Kd.C_below HR0_2.out HB.out) n_); have hcv22 := Kd.C_string (P := Try.prog) (A := A1_2) (c := c1_2) Try.underlying24 Try.underlying5 Try.underlying9 (Kd.C_below HR1_2.out HB.out); have hcv23 := fun n_ : Nat => Kd.C_string (P := Try.prog) (A := A1_2) (c := c1_2) Try.underlying24 Try.underlying5 Try.underlying9 (Kd.C_drewN (Kd.C_below HR1_2.out HB.out) n_)))
        go_ret
        exact ⟨by first | rfl | (simp [errW_none, errW_some] <;> rfl) | (simp [*, errW_none, errW_some] <;> rfl), by repeat (first | (with_reducible first | exact HB.out | apply below_alloc | apply pw_below_drewN | apply below_drew1 | refine below_set ?_ GE241.out | refine below_set ?_ GE242.out) | exact HB.out)⟩
    · rw [if_neg c4] at H
      have c4b0 : (a0_1 == a1_1) = false := beq_eq_false_iff_ne.mpr c4
      have c4b1 : (a0_1 != a1_1) = true := bne_iff_ne.mpr c4
      obtain rfl := Option.some.inj H
      go_enter Try.func32, Try.ntmps32
      go_wp2_with (first | ((with_reducible refine gate_dst (N := 2) rfl ?_); refine box_event ?hg (N := 2) ?hd (cs := #[.string a0_0, .int .i64 a0_1, .slice A0_2 l0_2.length c0_2, .int .i64 a0_3]) (t := 36) ?hr ?_; (case hd => rfl); (case hg => rfl); (case hr => first | (go_simp; done) | (go_simp; rfl)); intro gb241 hg w24 hbox hb; have n0_ := Aside0.mk (below_step (by repeat (first | (with_reducible first | exact HB.out | apply below_alloc | apply pw_below_drewN | apply below_drew1) | exact HB.out)) hb); have n1_ := Aside0.mk (hbox); have n2_ := Aside0.mk ((by rw [hg]; exact (below_size (by repeat (first | (with_reducible first | exact HB.out | apply below_alloc | apply pw_below_drewN | apply below_drew1) | exact HB.out))) : w.heap.size ≤ gb241)); have n3_ := Aside0.mk ((by rw [hg]; exact (below_size (by repeat (first | (with_reducible first | exact HB.out | apply below_alloc | apply pw_below_drewN | apply below_drew1) | exact HB.out))) : w.heap.size ≤ gb241)); clear HB; have HB := n0_; have BK241 := n1_; have GW241 := n2_; have GE241 := n3_; clear n0_ n1_ n2_ n3_; clear hb hbox hg) | ((with_reducible refine gate_dst (N := 3) rfl ?_); refine box_event ?hg (N := 3) ?hd (cs := #[.string a1_0, .int .i64 a1_1, .slice A1_2 l1_2.length c1_2, .int .i64 a1_3]) (t := 36) ?hr ?_; (case hd => rfl); (case hg => rfl); (case hr => first | (go_simp; done) | (go_simp; rfl)); intro gb242 hg w25 hbox hb; have n0_ := Aside0.mk (blk_below (g := gb241) (o := .cells #[.string a0_0, .int .i64 a0_1, .slice A0_2 l0_2.length c0_2, .int .i64 a0_3] 36 (0, 0)) (by (with_reducible repeat (first | refine blk_drewN ?_ _ | refine blk_drew ?_ | refine blk_alloc ?_ _)); exact BK241.out) hb); have n1_ := Aside0.mk (below_step (by repeat (first | (with_reducible first | exact HB.out | apply below_alloc | apply pw_below_drewN | apply below_drew1 | refine below_set ?_ GE241.out) | exact HB.out)) hb); have n2_ := Aside0.mk (hbox); have n3_ := Aside0.mk ((by rw [hg]; exact (below_size (by repeat (first | (with_reducible first | exact HB.out | apply below_alloc | apply pw_below_drewN | apply below_drew1 | refine below_set ?_ GE241.out) | exact HB.out))) : w.heap.size ≤ gb242)); have n4_ := Aside0.mk ((by rw [hg]; exact (below_size (by repeat (first | (with_reducible first | exact HB.out | apply below_alloc | apply pw_below_drewN | apply below_drew1 | refine below_set ?_ GE241.out) | exact HB.out))) : w.heap.size ≤ gb242)); have n5_ := Aside0.mk ((by rw [hg]; exact Nat.ne_of_lt (blk_lt (g := gb241) (o := .cells #[.string a0_0, .int .i64 a0_1, .slice A0_2 l0_2.length c0_2, .int .i64 a0_3] 36 (0, 0)) (by (with_reducible repeat (first | refine blk_drewN ?_ _ | refine blk_drew ?_ | refine blk_alloc ?_ _)); exact BK241.out)) : gb241 ≠ gb242)); have n6_ := Aside0.mk ((by rw [hg]; exact Nat.ne_of_gt (blk_lt (g := gb241) (o := .cells #[.string a0_0, .int .i64 a0_1, .slice A0_2 l0_2.length c0_2, .int .i64 a0_3] 36 (0, 0)) (by (with_reducible repeat (first | refine blk_drewN ?_ _ | refine blk_drew ?_ | refine blk_alloc ?_ _)); exact BK241.out)) : gb242 ≠ gb241)); clear BK241; clear HB; have BK241 := n0_; have HB := n1_; have BK242 := n2_; have GW242 := n3_; have GE242 := n4_; have NB241_242 := n5_; have NB242_241 := n6_; clear n0_ n1_ n2_ n3_ n4_ n5_ n6_; clear hb hbox hg; have hnb26 := NB241_242.out; have hnc26 := NB242_241.out; have hcz27_0 : w25.cell? ⟨gb241, 0, none⟩ = some (.string a0_0) := (blk_cell BK241.out 0).trans rfl; have hcz27_1 : w25.cell? ⟨gb241, 1, none⟩ = some (.int .i64 a0_1) := (blk_cell BK241.out 1).trans rfl; have hcz27_2 : w25.cell? ⟨gb241, 2, none⟩ = some (.slice A0_2 l0_2.length c0_2) := (blk_cell BK241.out 2).trans rfl; have hcz27_3 : w25.cell? ⟨gb241, 3, none⟩ = some (.int .i64 a0_3) := (blk_cell BK241.out 3).trans rfl; have hfz27_0 := blk_frozen BK241.out 0; have hfz27_1 := blk_frozen BK241.out 1; have hfz27_2 := blk_frozen BK241.out 2; have hfz27_3 := blk_frozen BK241.out 3; have hcz28_0 : w25.cell? ⟨gb242, 0, none⟩ = some (.string a1_0) := (blk_cell BK242.out 0).trans rfl; have hcz28_1 : w25.cell? ⟨gb242, 1, none⟩ = some (.int .i64 a1_1) := (blk_cell BK242.out 1).trans rfl; have hcz28_2 : w25.cell? ⟨gb242, 2, none⟩ = some (.slice A1_2 l1_2.length c1_2) := (blk_cell BK242.out 2).trans rfl; have hcz28_3 : w25.cell? ⟨gb242, 3, none⟩ = some (.int .i64 a1_3) := (blk_cell BK242.out 3).trans rfl; have hfz28_0 := blk_frozen BK242.out 0; have hfz28_1 := blk_frozen BK242.out 1; have hfz28_2 := blk_frozen BK242.out 2; have hfz28_3 := blk_frozen BK242.out 3))
      go_ret
      exact ⟨by first | rfl | (simp [errW_none, errW_some] <;> rfl) | (simp [*, errW_none, errW_some] <;> rfl), by repeat (first | (with_reducible first | exact HB.out | apply below_alloc | apply pw_below_drewN | apply below_drew1 | refine below_set ?_ GE241.out | refine below_set ?_ GE242.out) | exact HB.out)⟩
  · rw [if_neg c3] at H
    have c3b0 : (a0_0.toList == a1_0.toList) = false := beq_eq_false_iff_ne.mpr c3
    have c3b1 : (a0_0.toList != a1_0.toList) = true := bne_iff_ne.mpr c3
    obtain rfl := Option.some.inj H
    go_enter Try.func32, Try.ntmps32
    go_wp2_with (first | ((with_reducible refine gate_dst (N := 2) rfl ?_); refine box_event ?hg (N := 2) ?hd (cs := #[.string a0_0, .int .i64 a0_1, .slice A0_2 l0_2.length c0_2, .int .i64 a0_3]) (t := 36) ?hr ?_; (case hd => rfl); (case hg => rfl); (case hr => first | (go_simp; done) | (go_simp; rfl)); intro gb241 hg w29 hbox hb; have n0_ := Aside0.mk (below_step (by repeat (first | (with_reducible first | exact HB.out | apply below_alloc | apply pw_below_drewN | apply below_drew1) | exact HB.out)) hb); have n1_ := Aside0.mk (hbox); have n2_ := Aside0.mk ((by rw [hg]; exact (below_size (by repeat (first | (with_reducible first | exact HB.out | apply below_alloc | apply pw_below_drewN | apply below_drew1) | exact HB.out))) : w.heap.size ≤ gb241)); have n3_ := Aside0.mk ((by rw [hg]; exact (below_size (by repeat (first | (with_reducible first | exact HB.out | apply below_alloc | apply pw_below_drewN | apply below_drew1) | exact HB.out))) : w.heap.size ≤ gb241)); clear HB; have HB := n0_; have BK241 := n1_; have GW241 := n2_; have GE241 := n3_; clear n0_ n1_ n2_ n3_; clear hb hbox hg) | ((with_reducible refine gate_dst (N := 3) rfl ?_); refine box_event ?hg (N := 3) ?hd (cs := #[.string a1_0, .int .i64 a1_1, .slice A1_2 l1_2.length c1_2, .int .i64 a1_3]) (t := 36) ?hr ?_; (case hd => rfl); (case hg => rfl); (case hr => first | (go_simp; done) | (go_simp; rfl)); intro gb242 hg w30 hbox hb; have n0_ := Aside0.mk (blk_below (g := gb241) (o := .cells #[.string a0_0, .int .i64 a0_1, .slice A0_2 l0_2.length c0_2, .int .i64 a0_3] 36 (0, 0)) (by (with_reducible repeat (first | refine blk_drewN ?_ _ | refine blk_drew ?_ | refine blk_alloc ?_ _)); exact BK241.out) hb); have n1_ := Aside0.mk (below_step (by repeat (first | (with_reducible first | exact HB.out | apply below_alloc | apply pw_below_drewN | apply below_drew1 | refine below_set ?_ GE241.out) | exact HB.out)) hb); have n2_ := Aside0.mk (hbox); have n3_ := Aside0.mk ((by rw [hg]; exact (below_size (by repeat (first | (with_reducible first | exact HB.out | apply below_alloc | apply pw_below_drewN | apply below_drew1 | refine below_set ?_ GE241.out) | exact HB.out))) : w.heap.size ≤ gb242)); have n4_ := Aside0.mk ((by rw [hg]; exact (below_size (by repeat (first | (with_reducible first | exact HB.out | apply below_alloc | apply pw_below_drewN | apply below_drew1 | refine below_set ?_ GE241.out) | exact HB.out))) : w.heap.size ≤ gb242)); have n5_ := Aside0.mk ((by rw [hg]; exact Nat.ne_of_lt (blk_lt (g := gb241) (o := .cells #[.string a0_0, .int .i64 a0_1, .slice A0_2 l0_2.length c0_2, .int .i64 a0_3] 36 (0, 0)) (by (with_reducible repeat (first | refine blk_drewN ?_ _ | refine blk_drew ?_ | refine blk_alloc ?_ _)); exact BK241.out)) : gb241 ≠ gb242)); have n6_ := Aside0.mk ((by rw [hg]; exact Nat.ne_of_gt (blk_lt (g := gb241) (o := .cells #[.string a0_0, .int .i64 a0_1, .slice A0_2 l0_2.length c0_2, .int .i64 a0_3] 36 (0, 0)) (by (with_reducible repeat (first | refine blk_drewN ?_ _ | refine blk_drew ?_ | refine blk_alloc ?_ _)); exact BK241.out)) : gb242 ≠ gb241)); clear BK241; clear HB; have BK241 := n0_; have HB := n1_; have BK242 := n2_; have GW242 := n3_; have GE242 := n4_; have NB241_242 := n5_; have NB242_241 := n6_; clear n0_ n1_ n2_ n3_ n4_ n5_ n6_; clear hb hbox hg; have hnb31 := NB241_242.out; have hnc31 := NB242_241.out; have hcz32_0 : w30.cell? ⟨gb241, 0, none⟩ = some (.string a0_0) := (blk_cell BK241.out 0).trans rfl; have hcz32_1 : w30.cell? ⟨gb241, 1, none⟩ = some (.int .i64 a0_1) := (blk_cell BK241.out 1).trans rfl; have hcz32_2 : w30.cell? ⟨gb241, 2, none⟩ = some (.slice A0_2 l0_2.length c0_2) := (blk_cell BK241.out 2).trans rfl; have hcz32_3 : w30.cell? ⟨gb241, 3, none⟩ = some (.int .i64 a0_3) := (blk_cell BK241.out 3).trans rfl; have hfz32_0 := blk_frozen BK241.out 0; have hfz32_1 := blk_frozen BK241.out 1; have hfz32_2 := blk_frozen BK241.out 2; have hfz32_3 := blk_frozen BK241.out 3; have hcz33_0 : w30.cell? ⟨gb242, 0, none⟩ = some (.string a1_0) := (blk_cell BK242.out 0).trans rfl; have hcz33_1 : w30.cell? ⟨gb242, 1, none⟩ = some (.int .i64 a1_1) := (blk_cell BK242.out 1).trans rfl; have hcz33_2 : w30.cell? ⟨gb242, 2, none⟩ = some (.slice A1_2 l1_2.length c1_2) := (blk_cell BK242.out 2).trans rfl; have hcz33_3 : w30.cell? ⟨gb242, 3, none⟩ = some (.int .i64 a1_3) := (blk_cell BK242.out 3).trans rfl; have hfz33_0 := blk_frozen BK242.out 0; have hfz33_1 := blk_frozen BK242.out 1; have hfz33_2 := blk_frozen BK242.out 2; have hfz33_3 := blk_frozen BK242.out 3))
    go_ret
    exact ⟨by first | rfl | (simp [errW_none, errW_some] <;> rfl) | (simp [*, errW_none, errW_some] <;> rfl), by repeat (first | (with_reducible first | exact HB.out | apply below_alloc | apply pw_below_drewN | apply below_drew1 | refine below_set ?_ GE241.out | refine below_set ?_ GE242.out) | exact HB.out)⟩

/-! ### sect_Twin: function 33 -/
def sect_Twin.f (a0_0 : ByteArray) (a0_1 : Int) (l0_2 : List Int) (a0_3 : Int) : Option (ByteArray × Int × List Int × Int) := if ([] : List Int).length + l0_2.length < 140737488355328 then (some (a0_0, a0_1, (([] : List Int) ++ l0_2), a0_3)) else (none)
set_option maxHeartbeats 8000000 in
set_option maxRecDepth 100000 in
theorem sect_Twin.calls (a0_0 : ByteArray) (a0_1 : Int) (A0_2 : Option Addr) (c0_2 : Nat) (l0_2 : List Int) (a0_3 : Int) (r1 : ByteArray) (r2 : Int) (r3 : List Int) (r4 : Int) (w : World) (hr0_2 : Kd.C (Kd.int .u8) w A0_2 l0_2.length l0_2) (hc0_2 : l0_2.length ≤ c0_2) (h : sect_Twin.f a0_0 a0_1 l0_2 a0_3 = some (r1, r2, r3, r4)) :
    Calls Try.prog 33 #[.agg #[.string a0_0, .int .i64 a0_1, .slice A0_2 l0_2.length c0_2, .int .i64 a0_3]] w fun e w' => ∃ v2_ : Value, e = .returned (.agg #[.string r1, .int .i64 r2, v2_, .int .i64 r4]) ∧ Kd.R (Kd.int .u8) 5 w' w.heap.size (fun _ => True) v2_ r3 ∧ Below w.heap.size w w' := by
  have hu36 := Try.underlying36
  have HR0_2 := Aside0.mk hr0_2
  have HC0_2 := Aside0.mk hc0_2
  clear hr0_2 hc0_2
  have HB := Aside0.mk (Below.refl w.heap.size w)
  have H : (if ([] : List Int).length + l0_2.length < 140737488355328 then (some (a0_0, a0_1, (([] : List Int) ++ l0_2), a0_3)) else (none)) = some (r1, r2, r3, r4) := h
  clear h
  by_cases c2 : ([] : List Int).length + l0_2.length < 140737488355328
  · rw [if_pos c2] at H
    have LMc2 := Aside0.mk c2
    clear c2
    obtain ⟨y245, hy245⟩ : ∃ y_ : List Int, y_ = (([] : List Int) ++ l0_2) := ⟨_, rfl⟩
    replace H : (some (a0_0, a0_1, y245, a0_3)) = some (r1, r2, r3, r4) := by first | (rw [hy245]; with_reducible exact H) | (have H2_ := (Option.bind_some _ _).symm.trans H; rw [hy245]; with_reducible exact H2_) | (have H2_ := (Option.bind_some _ _).symm.trans H; with_reducible exact H2_) | with_reducible exact H | (rw [hy245]; exact H) | exact H
    have Ny245 := Aside0.mk hy245
    clear hy245
    simp only [Option.some.injEq, Prod.mk.injEq] at H
    obtain ⟨rfl, rfl, rfl, rfl⟩ := H
    go_enter Try.func33, Try.ntmps33
    go_wp2_with (first | ((with_reducible refine gate_dst (N := 1) rfl ?_); refine box_event ?hg (N := 1) ?hd (cs := #[.string a0_0, .int .i64 a0_1, .slice A0_2 l0_2.length c0_2, .int .i64 a0_3]) (t := 36) ?hr ?_; (case hd => rfl); (case hg => rfl); (case hr => first | (go_simp; done) | (go_simp; rfl)); intro gb243 hg w3 hbox hb; have n0_ := Aside0.mk (below_step (by repeat (first | (with_reducible first | exact HB.out | apply below_alloc | apply pw_below_drewN | apply below_drew1) | exact HB.out)) hb); have n1_ := Aside0.mk (hbox); have n2_ := Aside0.mk ((by rw [hg]; exact (below_size (by repeat (first | (with_reducible first | exact HB.out | apply below_alloc | apply pw_below_drewN | apply below_drew1) | exact HB.out))) : w.heap.size ≤ gb243)); have n3_ := Aside0.mk ((by rw [hg]; exact (below_size (by repeat (first | (with_reducible first | exact HB.out | apply below_alloc | apply pw_below_drewN | apply below_drew1) | exact HB.out))) : w.heap.size ≤ gb243)); clear HB; have HB := n0_; have BK243 := n1_; have GW243 := n2_; have GE243 := n3_; clear n0_ n1_ n2_ n3_; clear hb hbox hg) | ((with_reducible refine gate_dst (N := 2) rfl ?_); refine box_event ?hg (N := 2) ?hd (cs := #[.string (⟨#[]⟩ : ByteArray), .int .i64 0, .slice none 0 0, .int .i64 0]) (t := 36) ?hr ?_; (case hd => rfl); (case hg => rfl); (case hr => first | (go_simp; done) | (go_simp; rfl)); intro gb244 hg w4 hbox hb; have n0_ := Aside0.mk (blk_below (g := gb243) (o := .cells #[.string a0_0, .int .i64 a0_1, .slice A0_2 l0_2.length c0_2, .int .i64 a0_3] 36 (0, 0)) (by (with_reducible repeat (first | refine blk_drewN ?_ _ | refine blk_drew ?_ | refine blk_alloc ?_ _)); exact BK243.out) hb); have n1_ := Aside0.mk (below_step (by repeat (first | (with_reducible first | exact HB.out | apply below_alloc | apply pw_below_drewN | apply below_drew1 | refine below_set ?_ GE243.out) | exact HB.out)) hb); have n2_ := Aside0.mk (hbox); have n3_ := Aside0.mk ((by rw [hg]; exact (below_size (by repeat (first | (with_reducible first | exact HB.out | apply below_alloc | apply pw_below_drewN | apply below_drew1 | refine below_set ?_ GE243.out) | exact HB.out))) : w.heap.size ≤ gb244)); have n4_ := Aside0.mk ((by rw [hg]; exact (below_size (by repeat (first | (with_reducible first | exact HB.out | apply below_alloc | apply pw_below_drewN | apply below_drew1 | refine below_set ?_ GE243.out) | exact HB.out))) : w.heap.size ≤ gb244)); have n5_ := Aside0.mk ((by rw [hg]; exact Nat.ne_of_lt (blk_lt (g := gb243) (o := .cells #[.string a0_0, .int .i64 a0_1, .slice A0_2 l0_2.length c0_2, .int .i64 a0_3] 36 (0, 0)) (by (with_reducible repeat (first | refine blk_drewN ?_ _ | refine blk_drew ?_ | refine blk_alloc ?_ _)); exact BK243.out)) : gb243 ≠ gb244)); have n6_ := Aside0.mk ((by rw [hg]; exact Nat.ne_of_gt (blk_lt (g := gb243) (o := .cells #[.string a0_0, .int .i64 a0_1, .slice A0_2 l0_2.length c0_2, .int .i64 a0_3] 36 (0, 0)) (by (with_reducible repeat (first | refine blk_drewN ?_ _ | refine blk_drew ?_ | refine blk_alloc ?_ _)); exact BK243.out)) : gb244 ≠ gb243)); clear BK243; clear HB; have BK243 := n0_; have HB := n1_; have BK244 := n2_; have GW244 := n3_; have GE244 := n4_; have NB243_244 := n5_; have NB244_243 := n6_; clear n0_ n1_ n2_ n3_ n4_ n5_ n6_; clear hb hbox hg; have hnb5 := NB243_244.out; have hnc5 := NB244_243.out; have hcz6_0 : w4.cell? ⟨gb243, 0, none⟩ = some (.string a0_0) := (blk_cell BK243.out 0).trans rfl; have hcz6_1 : w4.cell? ⟨gb243, 1, none⟩ = some (.int .i64 a0_1) := (blk_cell BK243.out 1).trans rfl; have hcz6_2 : w4.cell? ⟨gb243, 2, none⟩ = some (.slice A0_2 l0_2.length c0_2) := (blk_cell BK243.out 2).trans rfl; have hcz6_3 : w4.cell? ⟨gb243, 3, none⟩ = some (.int .i64 a0_3) := (blk_cell BK243.out 3).trans rfl; have hfz6_0 := blk_frozen BK243.out 0; have hfz6_1 := blk_frozen BK243.out 1; have hfz6_2 := blk_frozen BK243.out 2; have hfz6_3 := blk_frozen BK243.out 3) | ((with_reducible refine gate_builtin (b := .append) (xs := #[.const (.slice none 0 0), .tmp 4]) rfl ?_); at_builtin; refine Kd.R_append_rows (Kd.int .u8) (w0 := w) w.heap.size rfl (.const (.slice none 0 0)) (.tmp 4) 24 5 (.int .u8 0) 1 rfl Try.underlying24 info5 rfl (by decide) (by omega) (.slice none 0 0) ([] : List Int) l0_2 _ _ _ (fun _ => True) (fun _ => False) rfl rfl ?aO ?aR (fun _ _ h => h) (fun _ h => h.elim) ?aF ?aB ?aS ?aL ?_; (case aR => repeat (first | exact (Kd.C_below HR0_2.out HB.out) | (with_reducible refine Kd.C_alloc ?_ _) | (with_reducible refine Kd.C_drewN ?_ _) | (with_reducible refine Kd.C_drew ?_))); (case aB => exact (by repeat (first | (with_reducible first | exact HB.out | apply below_alloc | apply pw_below_drewN | apply below_drew1 | refine below_set ?_ GE243.out | refine below_set ?_ GE244.out) | exact HB.out))); (case aF => exact (fun _ _ => trivial)); (case aO => exact ((Kd.R_nil _ _ _ _ (fun _ => True)))); (case aS => exact (below_size (by repeat (first | (with_reducible first | exact HB.out | apply below_alloc | apply pw_below_drewN | apply below_drew1 | refine below_set ?_ GE243.out | refine below_set ?_ GE244.out) | exact HB.out)))); (case aL => have := LMc2.out; omega); intro v246 w7 ho hb hg hat; rw [← Ny245.out] at ho; have n0_ := Aside0.mk (blk_grown (g := gb243) (o := .cells #[.string a0_0, .int .i64 a0_1, .slice A0_2 l0_2.length c0_2, .int .i64 a0_3] 36 (0, 0)) (by (with_reducible repeat (first | refine blk_drewN ?_ _ | refine blk_drew ?_ | refine blk_alloc ?_ _)); exact BK243.out) hg (by simp [Value.ownBlock])); have n1_ := Aside0.mk (blk_grown (g := gb244) (o := .cells #[.string (⟨#[]⟩ : ByteArray), .int .i64 0, .slice none 0 0, .int .i64 0] 36 (0, 0)) (by (with_reducible repeat (first | refine blk_drewN ?_ _ | refine blk_drew ?_ | refine blk_alloc ?_ _)); exact BK244.out) hg (by simp [Value.ownBlock])); have n2_ := Aside0.mk (hb); have n3_ := Aside0.mk (ho); clear BK243; clear BK244; clear HB; have BK243 := n0_; have BK244 := n1_; have HB := n2_; have HO247 := n3_; clear n0_ n1_ n2_ n3_; clear ho hb hg hat; obtain ⟨Ao8, co8, eo8⟩ := Kd.R_slice HO247.out; subst eo8; have hcz9_0 : w7.cell? ⟨gb243, 0, none⟩ = some (.string a0_0) := (blk_cell BK243.out 0).trans rfl; have hcz9_1 : w7.cell? ⟨gb243, 1, none⟩ = some (.int .i64 a0_1) := (blk_cell BK243.out 1).trans rfl; have hcz9_2 : w7.cell? ⟨gb243, 2, none⟩ = some (.slice A0_2 l0_2.length c0_2) := (blk_cell BK243.out 2).trans rfl; have hcz9_3 : w7.cell? ⟨gb243, 3, none⟩ = some (.int .i64 a0_3) := (blk_cell BK243.out 3).trans rfl; have hfz9_0 := blk_frozen BK243.out 0; have hfz9_1 := blk_frozen BK243.out 1; have hfz9_2 := blk_frozen BK243.out 2; have hfz9_3 := blk_frozen BK243.out 3; have hcz10_0 : w7.cell? ⟨gb244, 0, none⟩ = some (.string (⟨#[]⟩ : ByteArray)) := (blk_cell BK244.out 0).trans rfl; have hcz10_1 : w7.cell? ⟨gb244, 1, none⟩ = some (.int .i64 0) := (blk_cell BK244.out 1).trans rfl; have hcz10_2 : w7.cell? ⟨gb244, 2, none⟩ = some (.slice none 0 0) := (blk_cell BK244.out 2).trans rfl; have hcz10_3 : w7.cell? ⟨gb244, 3, none⟩ = some (.int .i64 0) := (blk_cell BK244.out 3).trans rfl; have hfz10_0 := blk_frozen BK244.out 0; have hfz10_1 := blk_frozen BK244.out 1; have hfz10_2 := blk_frozen BK244.out 2; have hfz10_3 := blk_frozen BK244.out 3))
    refine bodyPost_ret (results_cell_row rfl _ _ gb244 36 #[.string a0_0, .int .i64 a0_1, .slice Ao8 y245.length co8, .int .i64 a0_3] (0, 0) _ rfl (by (with_reducible repeat (first | refine blk_drewN ?_ _ | refine blk_drew ?_ | refine blk_alloc ?_ _)); refine blk_put (cs := #[.string a0_0, .int .i64 a0_1, .slice Ao8 y245.length co8, .int .i64 0]) ?_ 3 _ rfl; (with_reducible repeat (first | refine blk_drewN ?_ _ | refine blk_drew ?_ | refine blk_alloc ?_ _)); refine blk_put (cs := #[.string a0_0, .int .i64 a0_1, .slice none 0 0, .int .i64 0]) ?_ 2 _ rfl; (with_reducible repeat (first | refine blk_drewN ?_ _ | refine blk_drew ?_ | refine blk_alloc ?_ _)); refine blk_put (cs := #[.string a0_0, .int .i64 0, .slice none 0 0, .int .i64 0]) ?_ 1 _ rfl; (with_reducible repeat (first | refine blk_drewN ?_ _ | refine blk_drew ?_ | refine blk_alloc ?_ _)); refine blk_put (cs := #[.string (⟨#[]⟩ : ByteArray), .int .i64 0, .slice none 0 0, .int .i64 0]) ?_ 0 _ rfl; (with_reducible repeat (first | refine blk_drewN ?_ _ | refine blk_drew ?_ | refine blk_alloc ?_ _)); refine blk_far ?_ NB244_243.out _; (with_reducible repeat (first | refine blk_drewN ?_ _ | refine blk_drew ?_ | refine blk_alloc ?_ _)); exact BK244.out) Try.underlying36 rfl (by kernel_rfl)) rfl ?_
    exact ⟨_, by first | rfl | (simp [errW_none, errW_some] <;> rfl) | (simp [*, errW_none, errW_some] <;> rfl), by (with_reducible repeat (first | apply Kd.R_alloc | apply Kd.R_drewN | apply Kd.R_drew)); exact Kd.R_mono (Kd.R_far (p := ⟨gb244, 3, none⟩) (Kd.R_far (p := ⟨gb244, 2, none⟩) (Kd.R_far (p := ⟨gb244, 1, none⟩) (Kd.R_far (p := ⟨gb244, 0, none⟩) (Kd.R_far (p := ⟨gb243, 2, none⟩) (Kd.R_types (Kd.R_types HO247.out BK243.out (by decide)) BK244.out (by decide)) (fun _ hk => hk.1.2) (.slice Ao8 y245.length co8)) (fun _ hk => hk.2) (.string a0_0)) (fun _ hk => hk.2) (.int .i64 a0_1)) (fun _ hk => hk.2) (.slice Ao8 y245.length co8)) (fun _ hk => hk.2) (.int .i64 a0_3)) (fun _ hk => trivial), by repeat (first | (with_reducible first | exact HB.out | apply below_alloc | apply pw_below_drewN | apply below_drew1 | refine below_set ?_ GE243.out | refine below_set ?_ GE244.out) | exact HB.out)⟩
  · rw [if_neg c2] at H
    exact absurd H (by simp)

-- NOT PRINTED: function 4 (quoinlaw09_SectTwins)

end Go.Proofs.Ytomabnfeipobnaa.P
