-- Written by pext.py, a program of this session, over the kit's print: a function's contract
import Derived.Test.YtomabnfeipobnaaPx0
namespace Go.Proofs.Ytomabnfeipobnaa.P
open Go.RowKit Go.Proofs.YtomabnfeipobnaaW.PrintWords Go.Proofs.YtomabnfeipobnaaW.PrintLast Go.Proofs.YtomabnfeipobnaaW.PrintMore
attribute [local go_sem] max2_int min2_int max_two min_two max_three min_three max_four min_four   -- for this text's walks alone
set_option linter.unusedVariables false
set_option linter.unusedSimpArgs false

/-! ### stringslite_HasPrefix: function 116 -/
def stringslite_HasPrefix.f (a0 : ByteArray) (a1 : ByteArray) : Option (Bool) := if (a0.size : Int) ≥ (a1.size : Int) then (if 0 ≤ (a1.size : Int) then (if (a1.size : Int) ≤ (a0.size : Int) then (some ((a0.extract 0 a1.size).toList == a1.toList)) else (none)) else (none)) else (some false)
set_option maxHeartbeats 8000000 in
set_option maxRecDepth 100000 in
theorem stringslite_HasPrefix.calls (a0 : ByteArray) (a1 : ByteArray) (r : Bool) (w : World) (h : stringslite_HasPrefix.f a0 a1 = some r) :
  Calls Try.prog 116 #[.string a0, .string a1] w fun e w' => e = .returned (.bool r) ∧ Drawn0 w w' := by
 have H : (if (a0.size : Int) ≥ (a1.size : Int) then (if 0 ≤ (a1.size : Int) then (if (a1.size : Int) ≤ (a0.size : Int) then (some ((a0.extract 0 a1.size).toList == a1.toList)) else (none)) else (none)) else (some false)) = some r := h
 clear h
 by_cases c3 : (a0.size : Int) ≥ (a1.size : Int)
 ·
  rw [if_pos c3] at H
  have c3b0 : decide ((a1.size : Int) ≤ (a0.size : Int)) = true := decide_eq_true c3
  have c3b1 : decide (a1.size ≤ a0.size) = true := decide_eq_true (Int.ofNat_le.mp c3)
  clear c3
  by_cases c4 : 0 ≤ (a1.size : Int)
  ·
   rw [if_pos c4] at H
   have c4b0 := eq_true c4
   have c4b1 : decide (0 ≤ (a1.size : Int)) = true := decide_eq_true c4
   clear c4
   by_cases c5 : (a1.size : Int) ≤ (a0.size : Int)
   ·
    rw [if_pos c5] at H
    have c5b0 := eq_true c5
    have c5b1 : decide ((a1.size : Int) ≤ (a0.size : Int)) = true := decide_eq_true c5
    clear c5
    obtain rfl := Option.some.inj H
    go_enter Try.func116, Try.ntmps116
    go_wp2
    go_ret
    exact ⟨by first | rfl | (simp; done) | (simp [*]; done), by repeat (first | exact Drawn0.refl _ | apply Drawn0.step)⟩
   ·
    rw [if_neg c5] at H
    exact absurd H (by simp)
  ·
   rw [if_neg c4] at H
   exact absurd H (by simp)
 ·
  rw [if_neg c3] at H
  have c3b0 : decide ((a1.size : Int) ≤ (a0.size : Int)) = false := decide_eq_false c3
  have c3b1 : decide (a1.size ≤ a0.size) = false := decide_eq_false (fun h => c3 (Int.ofNat_le.mpr h))
  clear c3
  obtain rfl := Option.some.inj H
  go_enter Try.func116, Try.ntmps116
  go_wp2
  go_ret
  exact ⟨by first | rfl | (simp; done) | (simp [*]; done), by repeat (first | exact Drawn0.refl _ | apply Drawn0.step)⟩

/-! ### stringslite_CutPrefix: function 102 -/
def stringslite_CutPrefix.f (a0 : ByteArray) (a1 : ByteArray) : Option (ByteArray × Bool) := (stringslite_HasPrefix.f a0 a1).bind fun t231 => (if t231 = true then (if 0 ≤ (a1.size : Int) then (if (a1.size : Int) ≤ (a0.size : Int) then (some (a0.extract a1.size a0.size, true)) else (none)) else (none)) else (some (a0, false)))
set_option maxHeartbeats 8000000 in
set_option maxRecDepth 100000 in
theorem stringslite_CutPrefix.calls (a0 : ByteArray) (a1 : ByteArray) (r1 : ByteArray) (r2 : Bool) (w : World) (h : stringslite_CutPrefix.f a0 a1 = some (r1, r2)) :
  Calls Try.prog 102 #[.string a0, .string a1] w fun e w' => e = .returned (.tuple #[.string r1, .bool r2]) ∧ Drawn0 w w' := by
 have H : ((stringslite_HasPrefix.f a0 a1).bind fun t231 => (if t231 = true then (if 0 ≤ (a1.size : Int) then (if (a1.size : Int) ≤ (a0.size : Int) then (some (a0.extract a1.size a0.size, true)) else (none)) else (none)) else (some (a0, false)))) = some (r1, r2) := h
 clear h
 replace H := Option.bind_eq_some_iff.mp H
 obtain ⟨t231, A30, H⟩ := H
 replace H : (if t231 = true then (if 0 ≤ (a1.size : Int) then (if (a1.size : Int) ≤ (a0.size : Int) then (some (a0.extract a1.size a0.size, true)) else (none)) else (none)) else (some (a0, false))) = some (r1, r2) := H
 have A3 := Aside0.mk A30
 clear A30
 by_cases c4 : t231 = true
 ·
  subst c4
  have H1 : (if 0 ≤ (a1.size : Int) then (if (a1.size : Int) ≤ (a0.size : Int) then (some (a0.extract a1.size a0.size, true)) else (none)) else (none)) = some (r1, r2) := by rw [if_pos rfl] at H; exact H
  clear H
  have H := H1
  clear H1
  by_cases c5 : 0 ≤ (a1.size : Int)
  ·
   rw [if_pos c5] at H
   have c5b0 := eq_true c5
   have c5b1 : decide (0 ≤ (a1.size : Int)) = true := decide_eq_true c5
   clear c5
   by_cases c6 : (a1.size : Int) ≤ (a0.size : Int)
   ·
    rw [if_pos c6] at H
    have c6b0 := eq_true c6
    have c6b1 : decide ((a1.size : Int) ≤ (a0.size : Int)) = true := decide_eq_true c6
    clear c6
    simp only [Option.some.injEq, Prod.mk.injEq] at H
    obtain ⟨rfl, rfl⟩ := H
    go_enter Try.func102, Try.ntmps102
    go_wp2_with (first | ((with_reducible refine gate_callee (f := 116) rfl ?_); refine goesL_ (some 8) rfl rfl Try.func116 (by kernel_rfl) rfl #[.string a0, .string a1] rfl (by (try simp only [List.map_toArray, List.map_cons, List.map_nil]); first | done | rfl | (simp only [List.length_drop, List.length_take]; rfl)) ?_; (with_reducible refine (stringslite_HasPrefix.calls a0 a1 true _ A3.out).mono ?_); rintro e w' ⟨rfl, ⟨nd, rfl⟩⟩; refine ⟨_, rfl, ?_⟩))
    go_ret2
    exact ⟨by first | rfl | (simp; done) | (simp [*]; done), by repeat (first | exact Drawn0.refl _ | apply Drawn0.step)⟩
   ·
    rw [if_neg c6] at H
    exact absurd H (by simp)
  ·
   rw [if_neg c5] at H
   exact absurd H (by simp)
 ·
  replace c4 := Bool.eq_false_iff.mpr c4
  subst c4
  have H1 : (some (a0, false)) = some (r1, r2) := by rw [if_neg (show ¬ (false = true) by decide)] at H; exact H
  clear H
  have H := H1
  clear H1
  simp only [Option.some.injEq, Prod.mk.injEq] at H
  obtain ⟨rfl, rfl⟩ := H
  go_enter Try.func102, Try.ntmps102
  go_wp2_with (first | ((with_reducible refine gate_callee (f := 116) rfl ?_); refine goesL_ (some 8) rfl rfl Try.func116 (by kernel_rfl) rfl #[.string a0, .string a1] rfl (by (try simp only [List.map_toArray, List.map_cons, List.map_nil]); first | done | rfl | (simp only [List.length_drop, List.length_take]; rfl)) ?_; (with_reducible refine (stringslite_HasPrefix.calls a0 a1 false _ A3.out).mono ?_); rintro e w' ⟨rfl, ⟨nd, rfl⟩⟩; refine ⟨_, rfl, ?_⟩))
  go_ret2
  exact ⟨by first | rfl | (simp; done) | (simp [*]; done), by repeat (first | exact Drawn0.refl _ | apply Drawn0.step)⟩

/-! ### strings_CutPrefix: function 75 -/
def strings_CutPrefix.f (a0 : ByteArray) (a1 : ByteArray) : Option (ByteArray × Bool) := (stringslite_CutPrefix.f a0 a1).bind fun bt232 => (some (bt232.1, bt232.2))
set_option maxHeartbeats 8000000 in
set_option maxRecDepth 100000 in
theorem strings_CutPrefix.calls (a0 : ByteArray) (a1 : ByteArray) (r1 : ByteArray) (r2 : Bool) (w : World) (h : strings_CutPrefix.f a0 a1 = some (r1, r2)) :
  Calls Try.prog 75 #[.string a0, .string a1] w fun e w' => e = .returned (.tuple #[.string r1, .bool r2]) ∧ Drawn0 w w' := by
 have H : ((stringslite_CutPrefix.f a0 a1).bind fun bt232 => (some (bt232.1, bt232.2))) = some (r1, r2) := h
 clear h
 replace H := Option.bind_eq_some_iff.mp H
 obtain ⟨⟨t232, t233⟩, A30, H⟩ := H
 replace H : (some (t232, t233)) = some (r1, r2) := H
 have A3 := Aside0.mk A30
 clear A30
 simp only [Option.some.injEq, Prod.mk.injEq] at H
 obtain ⟨rfl, rfl⟩ := H
 go_enter Try.func75, Try.ntmps75
 go_wp2_with (first | ((with_reducible refine gate_callee (f := 102) rfl ?_); refine goesL_ (some 8) rfl rfl Try.func102 (by kernel_rfl) rfl #[.string a0, .string a1] rfl (by (try simp only [List.map_toArray, List.map_cons, List.map_nil]); first | done | rfl | (simp only [List.length_drop, List.length_take]; rfl)) ?_; (with_reducible refine (stringslite_CutPrefix.calls a0 a1 t232 t233 _ A3.out).mono ?_); rintro e w' ⟨rfl, ⟨nd, rfl⟩⟩; refine ⟨_, rfl, ?_⟩))
 go_ret2
 exact ⟨by first | rfl | (simp; done) | (simp [*]; done), by repeat (first | exact Drawn0.refl _ | apply Drawn0.step)⟩


/-! ### sect_Kind: function 35 -/
/-- strings.IndexFunc at a predicate on runes, from place pos on, by at most so many runes. -/
def idxF (p : Nat → Bool) (s : ByteArray) : Nat → Nat → Int
  | 0, _ => -1
  | f + 1, pos => if pos < s.size then (if p (Utf8.decode s pos).1 = true then (pos : Int) else idxF p s f (pos + (Utf8.decode s pos).2)) else -1
theorem idxF_end (p : Nat → Bool) (s : ByteArray) (f pos : Nat) (h : ¬ pos < s.size) : idxF p s f pos = -1 := by cases f <;> simp [idxF, h]
def oddR (r : Nat) : Bool := decide (r < 33) || decide (126 < r)
theorem oddR_yes {r : Nat} (h : r < 33 ∨ 126 < r) : oddR r = true := by simp [oddR]; exact h
theorem oddR_no {r : Nat} (h : ¬ (r < 33 ∨ 126 < r)) : oddR r = false := by simp [oddR]; omega
theorem odd_calls (r : Nat) (w : World) : Calls Try.prog 74 #[.int .i32 (r : Int)] w fun e w' => e = .returned (.bool (oddR r)) ∧ w' = w := by
  by_cases h1 : r < 33
  · have f1 : decide ((r : Int) < 33) = true := decide_eq_true (by omega)
    rw [oddR_yes (.inl h1)]
    go_enter Try.func74, Try.ntmps74
    go_wp2
    go_ret
    exact ⟨rfl, rfl⟩
  · have f1 : decide ((r : Int) < 33) = false := decide_eq_false (by omega)
    by_cases h2 : 126 < r
    · have f2 : decide (126 < (r : Int)) = true := decide_eq_true (by omega)
      rw [oddR_yes (.inr h2)]
      go_enter Try.func74, Try.ntmps74
      go_wp2
      go_ret
      exact ⟨rfl, rfl⟩
    · have f2 : decide (126 < (r : Int)) = false := decide_eq_false (by omega)
      rw [oddR_no (by omega)]
      go_enter Try.func74, Try.ntmps74
      go_wp2
      go_ret
      exact ⟨rfl, rfl⟩
set_option maxHeartbeats 2000000 in
set_option maxRecDepth 1000000 in
theorem indexFunc_odd (s : ByteArray) (w : World) :
    Calls Try.prog 115 #[.string s, .func (.func 74) #[] #[], .bool true] w fun e w' => e = .returned (.int .i64 (idxF oddR s s.size 0)) ∧ Below w.heap.size w w' := by
  go_enter Try.func115, Try.ntmps115
  go_wp2
  go_loopg [] s.size (fun gf wx => ∃ pos : Nat, wx.heap[w.heap.size]? = some (.stringIter s pos) ∧ Below w.heap.size w wx ∧ idxF oddR s gf pos = idxF oddR s s.size 0 ∧ s.size ≤ pos + gf)
  case atStart => exact ⟨0, World.iter_heap w s 0, (Below.refl _ w).alloc (Nat.le_refl _) _, rfl, by omega⟩
  case round =>
    obtain ⟨pos, hit, hbw, hleft, hfu⟩ := hrel
    by_cases hps : pos < s.size
    · obtain ⟨g', rfl⟩ : ∃ g', gk = g' + 1 := ⟨gk - 1, by omega⟩
      have hnx : ∀ ty, (Instr.next (.pointer (some ⟨w.heap.size, 0, none⟩)) true ty).run Try.prog wr = _ := fun ty => Lib.run_next_any_at wr w.heap.size s pos ty hit hps
      have hwd := Lib.width_pos s pos
      obtain ⟨R, hR⟩ : ∃ R, (Utf8.decode s pos).1 = R := ⟨_, rfl⟩
      obtain ⟨K, hK⟩ : ∃ K, (Utf8.decode s pos).2 = K := ⟨_, rfl⟩
      simp only [idxF, hps, if_true, hR, hK] at hleft
      rw [hR, hK] at hnx
      rw [hK] at hwd
      have hit2 := Lib.iterAt_heap wr w.heap.size s pos (pos + K) hit
      have hbw2 := Lib.below_iterAt hbw (k := w.heap.size) (Nat.le_refl _) s (pos + K)
      obtain ⟨W, hWd⟩ : ∃ W, wr.iterAt w.heap.size s (pos + K) = W := ⟨_, rfl⟩
      rw [hWd] at hnx hit2 hbw2
      have cS := odd_calls R W
      cases hsp : oddR R <;> rw [hsp] at cS <;> simp only [hsp, if_true, Bool.false_eq_true, if_false] at hleft
      · go_wp2_with (go_at_call 74; refine cS.mono ?_; rintro e W' ⟨rfl, rfl⟩)
        go_roundg g'
        case measure => omega
        case rel => exact ⟨pos + K, hit2, hbw2, hleft, by omega⟩
      · go_wp2_with (go_at_call 74; refine cS.mono ?_; rintro e W' ⟨rfl, rfl⟩)
        go_ret
        exact ⟨by rw [← hleft] <;> rfl, hbw2⟩
    · have hnx : ∀ ty, (Instr.next (.pointer (some ⟨w.heap.size, 0, none⟩)) true ty).run Try.prog wr = _ := fun ty => Lib.run_next_end_at wr w.heap.size s pos ty hit hps
      rw [idxF_end oddR s gk pos hps] at hleft
      go_wp2
      go_ret
      exact ⟨by rw [← hleft] <;> rfl, hbw⟩
theorem idxFunc_odd (s : ByteArray) (w : World) :
    Calls Try.prog 101 #[.string s, .func (.func 74) #[] #[]] w fun e w' => e = .returned (.int .i64 (idxF oddR s s.size 0)) ∧ Below w.heap.size w w' := by
  go_enter Try.func101, Try.ntmps101
  go_wp2_with (go_at_call 115; refine (indexFunc_odd s _).mono ?_; rintro e W' ⟨rfl, hb⟩)
  go_ret
  exact ⟨rfl, hb⟩
/-- All letters are graphic. -/
def allIn (l : List UInt8) : Bool := l.all fun b => decide (33 ≤ b.toNat ∧ b.toNat ≤ 126)
theorem decode_odd (s : ByteArray) (pos : Nat) : oddR (Utf8.decode s pos).1 = oddR (s.get! pos).toNat := by
  rw [Lib.decode_at]
  have hb := (s.get! pos).toNat_lt
  generalize (s.get! pos).toNat = b at *
  by_cases h : b < 128
  · simp [Lib.decodeN, h]
  · rw [oddR_yes (r := b) (.inr (by omega))]
    apply oddR_yes
    right
    unfold Lib.decodeN
    rw [if_neg h]
    repeat' split
    all_goals first | omega | (simp only []; omega)
theorem decode_one (s : ByteArray) (pos : Nat) (h : oddR (s.get! pos).toNat = false) : (Utf8.decode s pos).2 = 1 := by
  rw [Lib.decode_at]
  generalize (s.get! pos).toNat = b at *
  have : b < 128 := by
    by_cases hb : b < 128
    · exact hb
    · rw [oddR_yes (.inr (by omega))] at h
      cases h
  simp [Lib.decodeN, this]
theorem idxF_iff (s : ByteArray) (f : Nat) : ∀ pos, s.size ≤ pos + f → (0 ≤ idxF oddR s f pos ↔ ∃ j, pos ≤ j ∧ j < s.size ∧ oddR (s.get! j).toNat = true) := by
  induction f with
  | zero =>
    intro pos h
    simp only [idxF]
    constructor
    · intro h1
      omega
    · rintro ⟨j, h1, h2, _⟩
      omega
  | succ f ih =>
    intro pos h
    simp only [idxF]
    by_cases hp : pos < s.size
    · rw [if_pos hp, decode_odd]
      by_cases ho : oddR (s.get! pos).toNat = true
      · rw [if_pos ho]
        exact ⟨fun _ => ⟨pos, Nat.le_refl _, hp, ho⟩, fun _ => by omega⟩
      · rw [if_neg ho, decode_one s pos (by simpa using ho), ih (pos + 1) (by omega)]
        constructor
        · rintro ⟨j, h1, h2, h3⟩
          exact ⟨j, by omega, h2, h3⟩
        · rintro ⟨j, h1, h2, h3⟩
          by_cases e : j = pos
          · subst e
            exact absurd h3 ho
          · exact ⟨j, by omega, h2, h3⟩
    · rw [if_neg hp]
      constructor
      · intro h1
        omega
      · rintro ⟨j, h1, h2, _⟩
        omega
theorem get!_list (s : ByteArray) (j : Nat) (h : j < s.size) : s.get! j = s.data.toList[j]'(by rw [data_length]; exact h) := by
  have : j < s.data.size := h
  show s.data[j]! = _
  rw [getElem!_pos s.data j this]
  rfl
theorem allIn_iff (s : ByteArray) : (0 ≤ idxF oddR s s.size 0) ↔ (!allIn s.data.toList) = true := by
  rw [idxF_iff s s.size 0 (by omega)]
  constructor
  · rintro ⟨j, _, h2, h3⟩
    have hm : s.data.toList[j]'(by rw [data_length]; exact h2) ∈ s.data.toList := List.getElem_mem _
    rw [get!_list s j h2] at h3
    cases ha : allIn s.data.toList with
    | false => rfl
    | true =>
      have := List.all_eq_true.1 ha _ hm
      simp only [decide_eq_true_eq] at this
      rw [oddR_no (by omega)] at h3
      cases h3
  · intro h
    have ha : allIn s.data.toList = false := by simpa using h
    obtain ⟨b, hb, hn⟩ := List.all_eq_false.1 ha
    obtain ⟨j, hj, rfl⟩ := List.getElem_of_mem hb
    have hj2 : j < s.size := by rw [data_length] at hj; exact hj
    refine ⟨j, Nat.zero_le _, hj2, ?_⟩
    rw [get!_list s j hj2]
    simp only [decide_eq_true_eq] at hn
    exact oddR_yes (by omega)
theorem contains_odd (s : ByteArray) (b : Bool) (hb : allIn s.data.toList = !b) (w : World) :
    Calls Try.prog 73 #[.string s, .func (.func 74) #[] #[]] w fun e w' => e = .returned (.bool b) ∧ Below w.heap.size w w' := by
  have hi := allIn_iff s
  rw [hb, Bool.not_not] at hi
  obtain ⟨j, hj⟩ : ∃ j, idxF oddR s s.size 0 = j := ⟨_, rfl⟩
  have c := idxFunc_odd s
  rw [hj] at hi c
  have f1 : decide (0 ≤ j) = b := by cases b <;> simp_all
  clear hj hi hb
  go_enter Try.func73, Try.ntmps73
  go_wp2_with (go_at_call 101; refine (c _).mono ?_; rintro e W' ⟨rfl, hb⟩)
  go_ret
  exact ⟨rfl, hb⟩
/-- A text is another one, or that with a point and more behind it. -/
def headIs (l p : List UInt8) : Bool := decide (l.take p.length = p) && (decide (l.length = p.length) || decide ((l.getD p.length 0).toNat = 46))
def kindNames : List (List UInt8) := [[46, 116, 101, 120, 116], [46, 114, 111, 100, 97, 116, 97], [46, 100, 97, 116, 97], [46, 98, 115, 115]]
/-- The kind of a name that may be: from place k of the names on. -/
def kindFrom (l : List UInt8) : List (List UInt8) → Nat → Nat
  | [], _ => 0
  | p :: ps, k => if headIs l p = true then k + 1 else kindFrom l ps (k + 1)
def kindOf (l : List UInt8) : Nat := kindFrom l kindNames 0
/-- What sect.Kind answers. -/
def kindAns (l : List UInt8) : Int × Int := if l.length ≤ 32 ∧ allIn l = true ∧ kindOf l ≠ 0 then ((kindOf l : Int), 0) else (0, 3)
def sect_Kind.f (a0 : ByteArray) : Option (Int × Int) := if a0.size ≤ 9223372036854775807 then some (kindAns a0.data.toList) else none
theorem ext_list (s : ByteArray) (a b : Nat) : (s.extract a b).data.toList = (s.data.toList.take b).drop a := by
  rw [ByteArray.data_extract, Array.toList_extract, List.extract_eq_take_drop, List.drop_take]
theorem cut_pre (s p : ByteArray) (h : s.data.toList.take p.size = p.data.toList) (hs : s.size ≤ 9223372036854775807) : strings_CutPrefix.f s p = some (s.extract p.size s.size, true) := by
  have hl : p.size ≤ s.size := by
    have := congrArg List.length h
    rw [List.length_take, data_length, data_length] at this
    omega
  have he : (s.extract 0 p.size).toList = p.toList := by
    rw [ByteArray.toList_eq, ByteArray.toList_eq, ext_list, h, List.drop_zero]
  unfold strings_CutPrefix.f stringslite_CutPrefix.f stringslite_HasPrefix.f
  (try simp only [Int.toNat_natCast])
  rw [if_pos (by omega), if_pos (by omega), if_pos (by omega), he]
  simp only [Option.bind_some, beq_self_eq_true, if_true]
  rw [if_pos (by omega), if_pos (by omega)]
  rfl
theorem cut_not (s p : ByteArray) (h : ¬ s.data.toList.take p.size = p.data.toList) (hs : s.size ≤ 9223372036854775807) : strings_CutPrefix.f s p = some (s, false) := by
  unfold strings_CutPrefix.f stringslite_CutPrefix.f stringslite_HasPrefix.f
  (try simp only [Int.toNat_natCast])
  by_cases hl : (s.size : Int) ≥ (p.size : Int)
  · have he : ((s.extract 0 p.size).toList == p.toList) = false := by
      rw [ByteArray.toList_eq, ByteArray.toList_eq, ext_list, List.drop_zero]
      simpa using h
    rw [if_pos hl, if_pos (by omega), if_pos (by omega), he]
    rfl
  · rw [if_neg hl]
    rfl
theorem below_draws {B : Nat} {w W : World} (h : Below B w W) (n : Nat) : Below B w (W.drewN n) := pw_below_drewN h n
set_option maxHeartbeats 4000000 in
set_option maxRecDepth 1000000 in
theorem sect_Kind.rounds (s : ByteArray) (w : World) (hs : s.size ≤ 9223372036854775807) (h32 : s.size ≤ 32) (ha : allIn s.data.toList = true) (r1 r2 : Int)
    (hres : ∀ k, kindOf s.data.toList = k → k ≠ 0 → ((k : Int), (0 : Int)) = (r1, r2)) (hno : kindOf s.data.toList = 0 → ((0 : Int), (3 : Int)) = (r1, r2)) :
    Calls Try.prog 35 #[.string s] w fun e w' => e = .returned (.tuple #[.int .u8 r1, .int .i64 r2]) ∧ Below w.heap.size w w' := by
  have f32 : decide ((32 : Int) < (s.size : Int)) = false := decide_eq_false (by omega)
  have f32b : decide (32 < s.size) = false := decide_eq_false (by omega)
  have cC := fun W => contains_odd s false ha W
  clear ha
  have HO := Aside0.mk hno
  have HRS := Aside0.mk hres
  clear hno hres
  go_enter Try.func35, Try.ntmps35
  go_wp2_with (go_at_call 73; refine (cC _).mono ?_; rintro e W' ⟨rfl, hb⟩)
  go_loopg [20] 4 (fun gf i wx => ∃ k : Nat, k + gf = 4 ∧ i = .int .i64 k ∧ kindFrom s.data.toList (kindNames.drop k) k = kindOf s.data.toList ∧ Below w.heap.size w wx)
  case atStart => exact ⟨0, rfl, rfl, rfl, hb⟩
  case round =>
    obtain ⟨k, hk, rfl, hleft, hbw⟩ := hrel
    have hres := HRS.out
    clear f32 f32b cC
    rcases (show k = 0 ∨ k = 1 ∨ k = 2 ∨ k = 3 ∨ k = 4 by omega) with rfl | rfl | rfl | rfl | rfl
    · -- name 0
      have hix : ∀ W, (Instr.index 110 (.agg #[.string ⟨#[46, 116, 101, 120, 116]⟩, .string ⟨#[46, 114, 111, 100, 97, 116, 97]⟩, .string ⟨#[46, 100, 97, 116, 97]⟩, .string ⟨#[46, 98, 115, 115]⟩]) (.int .i64 0)).run Try.prog W = .ok (.string ⟨#[46, 116, 101, 120, 116]⟩) W := fun W => by kernel_rfl
      have hkl : (if headIs s.data.toList [46, 116, 101, 120, 116] = true then 1 else kindFrom s.data.toList (kindNames.drop 1) 1) = kindOf s.data.toList := hleft
      clear hleft
      by_cases hp : s.data.toList.take 5 = [46, 116, 101, 120, 116]
      · have cS := fun W => strings_CutPrefix.calls s ⟨#[46, 116, 101, 120, 116]⟩ (s.extract 5 s.size) true W (cut_pre s ⟨#[46, 116, 101, 120, 116]⟩ hp hs)
        obtain ⟨R, hR⟩ : ∃ R, s.extract 5 s.size = R := ⟨_, rfl⟩
        rw [hR] at cS
        have hRl : R.data.toList = s.data.toList.drop 5 := by rw [← hR, ext_list, List.take_of_length_le (by rw [data_length]; exact Nat.le_refl _)]
        have hsz : R.size = s.size - 5 := by have := congrArg List.length hRl; rw [data_length, List.length_drop, data_length] at this; exact this
        have hple : 5 ≤ s.size := by have := congrArg List.length hp; rw [List.length_take, data_length] at this; simp at this; omega
        have ht : R.toList = R.data.toList := ByteArray.toList_eq R
        by_cases h0 : R.size = 0
        · have hnil : R.toList = [] := by rw [ht]; exact List.eq_nil_of_length_eq_zero (by rw [data_length]; exact h0)
          have hhd : headIs s.data.toList [46, 116, 101, 120, 116] = true := by
            have : s.size = 5 := by omega
            simp [headIs, hp, data_length, this]
          rw [if_pos hhd] at hkl
          have e1 : (R.toList == ([] : List UInt8)) = true := by rw [hnil]; rfl
          have e2 : (R.toList != ([] : List UInt8)) = false := by rw [hnil]; rfl
          have e3 : R.toList.isEmpty = true := by rw [hnil]; rfl
          obtain ⟨rfl, rfl⟩ := Prod.mk.inj (hres _ hkl.symm (by decide))
          clear hp hR hRl hsz ht h0 hhd hkl hres
          have HN := Aside0.mk hnil
          clear hnil
          go_wp2_with (go_at_call 75; refine (cS _).mono ?_; rintro e W' ⟨rfl, ⟨nd, rfl⟩⟩)
          go_ret2
          exact ⟨rfl, below_draws hbw nd⟩
        · have hnn : ¬ R.toList = [] := by rw [ht]; intro h; exact h0 (by have := congrArg List.length h; rw [data_length] at this; exact this)
          have e1 : (R.toList == ([] : List UInt8)) = false := by simpa using hnn
          have e2 : (R.toList != ([] : List UInt8)) = true := by simpa using hnn
          have e3 : R.toList.isEmpty = false := by simpa using hnn
          have q9 : 0 < R.size := by omega
          have hx9 : ∀ h : 0 < R.size, ((R[0]'h).toNat : Int) = bt R 0 := bt_at R 0
          have hbt : bt R 0 = ((s.data.toList.getD 5 0).toNat : Int) := by
            have h1 := bt_at R 0 q9
            rw [← h1]
            have h2 : (R[0]'q9) = s.data.toList.getD 5 0 := by
              have h3 : s.data.toList.getD 5 0 = R.data.toList.getD 0 0 := by rw [hRl, List.getD_eq_getElem?_getD, List.getD_eq_getElem?_getD, List.getElem?_drop]
              rw [h3, List.getD_eq_getElem?_getD, Array.getElem?_toList, Array.getElem?_eq_getElem (show 0 < R.data.size from q9)]
              rfl
            exact congrArg (fun b : UInt8 => (b.toNat : Int)) h2
          have qi9 : (0 < (R.size : Int)) = True := eq_true (by omega)
          by_cases h46 : bt R 0 = 46
          · have hhd : headIs s.data.toList [46, 116, 101, 120, 116] = true := by
              have h5 : (s.data.toList.getD 5 0).toNat = 46 := by omega
              simp only [headIs, List.length_cons, List.length_nil, Nat.reduceAdd, hp, h5, decide_true, Bool.or_true, Bool.and_true]
            rw [if_pos hhd] at hkl
            have f46 : (bt R 0 == 46) = true := beq_iff_eq.mpr h46
            obtain ⟨rfl, rfl⟩ := Prod.mk.inj (hres _ hkl.symm (by decide))
            clear hp hR hRl hsz ht h0 hhd hkl hres hbt h46 hnn
            replace q9 := eq_true q9
            go_wp2_with (go_at_call 75; refine (cS _).mono ?_; rintro e W' ⟨rfl, ⟨nd, rfl⟩⟩)
            go_ret2
            exact ⟨rfl, below_draws hbw nd⟩
          · have hhd : ¬ headIs s.data.toList [46, 116, 101, 120, 116] = true := by
              have h5 : ¬ (s.data.toList.getD 5 0).toNat = 46 := by omega
              have h6 : ¬ s.data.toList.length = 5 := by rw [data_length]; omega
              simp only [headIs, List.length_cons, List.length_nil, Nat.reduceAdd, hp, h5, h6, decide_true, decide_false, Bool.or_false, Bool.and_false]
              decide
            rw [if_neg hhd] at hkl
            have f46 : (bt R 0 == 46) = false := beq_eq_false_iff_ne.mpr h46
            clear hp hR hRl hsz ht h0 hhd hbt h46 hnn
            replace q9 := eq_true q9
            have HK := Aside0.mk hkl
            have HR := Aside0.mk hres
            clear hkl hres
            go_wp2_with (go_at_call 75; refine (cS _).mono ?_; rintro e W' ⟨rfl, ⟨nd, rfl⟩⟩)
            go_roundg 3
            case measure => omega
            case rel => exact ⟨1, by omega, rfl, HK.out, below_draws hbw nd⟩
      · have cS := fun W => strings_CutPrefix.calls s ⟨#[46, 116, 101, 120, 116]⟩ s false W (cut_not s ⟨#[46, 116, 101, 120, 116]⟩ hp hs)
        have hhd : ¬ headIs s.data.toList [46, 116, 101, 120, 116] = true := by
          simp only [headIs, List.length_cons, List.length_nil, Nat.reduceAdd, hp, decide_false, Bool.false_and]
          decide
        rw [if_neg hhd] at hkl
        clear hp hhd
        have HK := Aside0.mk hkl
        have HR := Aside0.mk hres
        clear hkl hres
        go_wp2_with (go_at_call 75; refine (cS _).mono ?_; rintro e W' ⟨rfl, ⟨nd, rfl⟩⟩)
        go_roundg 3
        case measure => omega
        case rel => exact ⟨1, by omega, rfl, HK.out, below_draws hbw nd⟩
    · -- name 1
      have hix : ∀ W, (Instr.index 110 (.agg #[.string ⟨#[46, 116, 101, 120, 116]⟩, .string ⟨#[46, 114, 111, 100, 97, 116, 97]⟩, .string ⟨#[46, 100, 97, 116, 97]⟩, .string ⟨#[46, 98, 115, 115]⟩]) (.int .i64 1)).run Try.prog W = .ok (.string ⟨#[46, 114, 111, 100, 97, 116, 97]⟩) W := fun W => by kernel_rfl
      have hkl : (if headIs s.data.toList [46, 114, 111, 100, 97, 116, 97] = true then 2 else kindFrom s.data.toList (kindNames.drop 2) 2) = kindOf s.data.toList := hleft
      clear hleft
      by_cases hp : s.data.toList.take 7 = [46, 114, 111, 100, 97, 116, 97]
      · have cS := fun W => strings_CutPrefix.calls s ⟨#[46, 114, 111, 100, 97, 116, 97]⟩ (s.extract 7 s.size) true W (cut_pre s ⟨#[46, 114, 111, 100, 97, 116, 97]⟩ hp hs)
        obtain ⟨R, hR⟩ : ∃ R, s.extract 7 s.size = R := ⟨_, rfl⟩
        rw [hR] at cS
        have hRl : R.data.toList = s.data.toList.drop 7 := by rw [← hR, ext_list, List.take_of_length_le (by rw [data_length]; exact Nat.le_refl _)]
        have hsz : R.size = s.size - 7 := by have := congrArg List.length hRl; rw [data_length, List.length_drop, data_length] at this; exact this
        have hple : 7 ≤ s.size := by have := congrArg List.length hp; rw [List.length_take, data_length] at this; simp at this; omega
        have ht : R.toList = R.data.toList := ByteArray.toList_eq R
        by_cases h0 : R.size = 0
        · have hnil : R.toList = [] := by rw [ht]; exact List.eq_nil_of_length_eq_zero (by rw [data_length]; exact h0)
          have hhd : headIs s.data.toList [46, 114, 111, 100, 97, 116, 97] = true := by
            have : s.size = 7 := by omega
            simp [headIs, hp, data_length, this]
          rw [if_pos hhd] at hkl
          have e1 : (R.toList == ([] : List UInt8)) = true := by rw [hnil]; rfl
          have e2 : (R.toList != ([] : List UInt8)) = false := by rw [hnil]; rfl
          have e3 : R.toList.isEmpty = true := by rw [hnil]; rfl
          obtain ⟨rfl, rfl⟩ := Prod.mk.inj (hres _ hkl.symm (by decide))
          clear hp hR hRl hsz ht h0 hhd hkl hres
          have HN := Aside0.mk hnil
          clear hnil
          go_wp2_with (go_at_call 75; refine (cS _).mono ?_; rintro e W' ⟨rfl, ⟨nd, rfl⟩⟩)
          go_ret2
          exact ⟨rfl, below_draws hbw nd⟩
        · have hnn : ¬ R.toList = [] := by rw [ht]; intro h; exact h0 (by have := congrArg List.length h; rw [data_length] at this; exact this)
          have e1 : (R.toList == ([] : List UInt8)) = false := by simpa using hnn
          have e2 : (R.toList != ([] : List UInt8)) = true := by simpa using hnn
          have e3 : R.toList.isEmpty = false := by simpa using hnn
          have q9 : 0 < R.size := by omega
          have hx9 : ∀ h : 0 < R.size, ((R[0]'h).toNat : Int) = bt R 0 := bt_at R 0
          have hbt : bt R 0 = ((s.data.toList.getD 7 0).toNat : Int) := by
            have h1 := bt_at R 0 q9
            rw [← h1]
            have h2 : (R[0]'q9) = s.data.toList.getD 7 0 := by
              have h3 : s.data.toList.getD 7 0 = R.data.toList.getD 0 0 := by rw [hRl, List.getD_eq_getElem?_getD, List.getD_eq_getElem?_getD, List.getElem?_drop]
              rw [h3, List.getD_eq_getElem?_getD, Array.getElem?_toList, Array.getElem?_eq_getElem (show 0 < R.data.size from q9)]
              rfl
            exact congrArg (fun b : UInt8 => (b.toNat : Int)) h2
          have qi9 : (0 < (R.size : Int)) = True := eq_true (by omega)
          by_cases h46 : bt R 0 = 46
          · have hhd : headIs s.data.toList [46, 114, 111, 100, 97, 116, 97] = true := by
              have h5 : (s.data.toList.getD 7 0).toNat = 46 := by omega
              simp only [headIs, List.length_cons, List.length_nil, Nat.reduceAdd, hp, h5, decide_true, Bool.or_true, Bool.and_true]
            rw [if_pos hhd] at hkl
            have f46 : (bt R 0 == 46) = true := beq_iff_eq.mpr h46
            obtain ⟨rfl, rfl⟩ := Prod.mk.inj (hres _ hkl.symm (by decide))
            clear hp hR hRl hsz ht h0 hhd hkl hres hbt h46 hnn
            replace q9 := eq_true q9
            go_wp2_with (go_at_call 75; refine (cS _).mono ?_; rintro e W' ⟨rfl, ⟨nd, rfl⟩⟩)
            go_ret2
            exact ⟨rfl, below_draws hbw nd⟩
          · have hhd : ¬ headIs s.data.toList [46, 114, 111, 100, 97, 116, 97] = true := by
              have h5 : ¬ (s.data.toList.getD 7 0).toNat = 46 := by omega
              have h6 : ¬ s.data.toList.length = 7 := by rw [data_length]; omega
              simp only [headIs, List.length_cons, List.length_nil, Nat.reduceAdd, hp, h5, h6, decide_true, decide_false, Bool.or_false, Bool.and_false]
              decide
            rw [if_neg hhd] at hkl
            have f46 : (bt R 0 == 46) = false := beq_eq_false_iff_ne.mpr h46
            clear hp hR hRl hsz ht h0 hhd hbt h46 hnn
            replace q9 := eq_true q9
            have HK := Aside0.mk hkl
            have HR := Aside0.mk hres
            clear hkl hres
            go_wp2_with (go_at_call 75; refine (cS _).mono ?_; rintro e W' ⟨rfl, ⟨nd, rfl⟩⟩)
            go_roundg 2
            case measure => omega
            case rel => exact ⟨2, by omega, rfl, HK.out, below_draws hbw nd⟩
      · have cS := fun W => strings_CutPrefix.calls s ⟨#[46, 114, 111, 100, 97, 116, 97]⟩ s false W (cut_not s ⟨#[46, 114, 111, 100, 97, 116, 97]⟩ hp hs)
        have hhd : ¬ headIs s.data.toList [46, 114, 111, 100, 97, 116, 97] = true := by
          simp only [headIs, List.length_cons, List.length_nil, Nat.reduceAdd, hp, decide_false, Bool.false_and]
          decide
        rw [if_neg hhd] at hkl
        clear hp hhd
        have HK := Aside0.mk hkl
        have HR := Aside0.mk hres
        clear hkl hres
        go_wp2_with (go_at_call 75; refine (cS _).mono ?_; rintro e W' ⟨rfl, ⟨nd, rfl⟩⟩)
        go_roundg 2
        case measure => omega
        case rel => exact ⟨2, by omega, rfl, HK.out, below_draws hbw nd⟩
    · -- name 2
      have hix : ∀ W, (Instr.index 110 (.agg #[.string ⟨#[46, 116, 101, 120, 116]⟩, .string ⟨#[46, 114, 111, 100, 97, 116, 97]⟩, .string ⟨#[46, 100, 97, 116, 97]⟩, .string ⟨#[46, 98, 115, 115]⟩]) (.int .i64 2)).run Try.prog W = .ok (.string ⟨#[46, 100, 97, 116, 97]⟩) W := fun W => by kernel_rfl
      have hkl : (if headIs s.data.toList [46, 100, 97, 116, 97] = true then 3 else kindFrom s.data.toList (kindNames.drop 3) 3) = kindOf s.data.toList := hleft
      clear hleft
      by_cases hp : s.data.toList.take 5 = [46, 100, 97, 116, 97]
      · have cS := fun W => strings_CutPrefix.calls s ⟨#[46, 100, 97, 116, 97]⟩ (s.extract 5 s.size) true W (cut_pre s ⟨#[46, 100, 97, 116, 97]⟩ hp hs)
        obtain ⟨R, hR⟩ : ∃ R, s.extract 5 s.size = R := ⟨_, rfl⟩
        rw [hR] at cS
        have hRl : R.data.toList = s.data.toList.drop 5 := by rw [← hR, ext_list, List.take_of_length_le (by rw [data_length]; exact Nat.le_refl _)]
        have hsz : R.size = s.size - 5 := by have := congrArg List.length hRl; rw [data_length, List.length_drop, data_length] at this; exact this
        have hple : 5 ≤ s.size := by have := congrArg List.length hp; rw [List.length_take, data_length] at this; simp at this; omega
        have ht : R.toList = R.data.toList := ByteArray.toList_eq R
        by_cases h0 : R.size = 0
        · have hnil : R.toList = [] := by rw [ht]; exact List.eq_nil_of_length_eq_zero (by rw [data_length]; exact h0)
          have hhd : headIs s.data.toList [46, 100, 97, 116, 97] = true := by
            have : s.size = 5 := by omega
            simp [headIs, hp, data_length, this]
          rw [if_pos hhd] at hkl
          have e1 : (R.toList == ([] : List UInt8)) = true := by rw [hnil]; rfl
          have e2 : (R.toList != ([] : List UInt8)) = false := by rw [hnil]; rfl
          have e3 : R.toList.isEmpty = true := by rw [hnil]; rfl
          obtain ⟨rfl, rfl⟩ := Prod.mk.inj (hres _ hkl.symm (by decide))
          clear hp hR hRl hsz ht h0 hhd hkl hres
          have HN := Aside0.mk hnil
          clear hnil
          go_wp2_with (go_at_call 75; refine (cS _).mono ?_; rintro e W' ⟨rfl, ⟨nd, rfl⟩⟩)
          go_ret2
          exact ⟨rfl, below_draws hbw nd⟩
        · have hnn : ¬ R.toList = [] := by rw [ht]; intro h; exact h0 (by have := congrArg List.length h; rw [data_length] at this; exact this)
          have e1 : (R.toList == ([] : List UInt8)) = false := by simpa using hnn
          have e2 : (R.toList != ([] : List UInt8)) = true := by simpa using hnn
          have e3 : R.toList.isEmpty = false := by simpa using hnn
          have q9 : 0 < R.size := by omega
          have hx9 : ∀ h : 0 < R.size, ((R[0]'h).toNat : Int) = bt R 0 := bt_at R 0
          have hbt : bt R 0 = ((s.data.toList.getD 5 0).toNat : Int) := by
            have h1 := bt_at R 0 q9
            rw [← h1]
            have h2 : (R[0]'q9) = s.data.toList.getD 5 0 := by
              have h3 : s.data.toList.getD 5 0 = R.data.toList.getD 0 0 := by rw [hRl, List.getD_eq_getElem?_getD, List.getD_eq_getElem?_getD, List.getElem?_drop]
              rw [h3, List.getD_eq_getElem?_getD, Array.getElem?_toList, Array.getElem?_eq_getElem (show 0 < R.data.size from q9)]
              rfl
            exact congrArg (fun b : UInt8 => (b.toNat : Int)) h2
          have qi9 : (0 < (R.size : Int)) = True := eq_true (by omega)
          by_cases h46 : bt R 0 = 46
          · have hhd : headIs s.data.toList [46, 100, 97, 116, 97] = true := by
              have h5 : (s.data.toList.getD 5 0).toNat = 46 := by omega
              simp only [headIs, List.length_cons, List.length_nil, Nat.reduceAdd, hp, h5, decide_true, Bool.or_true, Bool.and_true]
            rw [if_pos hhd] at hkl
            have f46 : (bt R 0 == 46) = true := beq_iff_eq.mpr h46
            obtain ⟨rfl, rfl⟩ := Prod.mk.inj (hres _ hkl.symm (by decide))
            clear hp hR hRl hsz ht h0 hhd hkl hres hbt h46 hnn
            replace q9 := eq_true q9
            go_wp2_with (go_at_call 75; refine (cS _).mono ?_; rintro e W' ⟨rfl, ⟨nd, rfl⟩⟩)
            go_ret2
            exact ⟨rfl, below_draws hbw nd⟩
          · have hhd : ¬ headIs s.data.toList [46, 100, 97, 116, 97] = true := by
              have h5 : ¬ (s.data.toList.getD 5 0).toNat = 46 := by omega
              have h6 : ¬ s.data.toList.length = 5 := by rw [data_length]; omega
              simp only [headIs, List.length_cons, List.length_nil, Nat.reduceAdd, hp, h5, h6, decide_true, decide_false, Bool.or_false, Bool.and_false]
              decide
            rw [if_neg hhd] at hkl
            have f46 : (bt R 0 == 46) = false := beq_eq_false_iff_ne.mpr h46
            clear hp hR hRl hsz ht h0 hhd hbt h46 hnn
            replace q9 := eq_true q9
            have HK := Aside0.mk hkl
            have HR := Aside0.mk hres
            clear hkl hres
            go_wp2_with (go_at_call 75; refine (cS _).mono ?_; rintro e W' ⟨rfl, ⟨nd, rfl⟩⟩)
            go_roundg 1
            case measure => omega
            case rel => exact ⟨3, by omega, rfl, HK.out, below_draws hbw nd⟩
      · have cS := fun W => strings_CutPrefix.calls s ⟨#[46, 100, 97, 116, 97]⟩ s false W (cut_not s ⟨#[46, 100, 97, 116, 97]⟩ hp hs)
        have hhd : ¬ headIs s.data.toList [46, 100, 97, 116, 97] = true := by
          simp only [headIs, List.length_cons, List.length_nil, Nat.reduceAdd, hp, decide_false, Bool.false_and]
          decide
        rw [if_neg hhd] at hkl
        clear hp hhd
        have HK := Aside0.mk hkl
        have HR := Aside0.mk hres
        clear hkl hres
        go_wp2_with (go_at_call 75; refine (cS _).mono ?_; rintro e W' ⟨rfl, ⟨nd, rfl⟩⟩)
        go_roundg 1
        case measure => omega
        case rel => exact ⟨3, by omega, rfl, HK.out, below_draws hbw nd⟩
    · -- name 3
      have hix : ∀ W, (Instr.index 110 (.agg #[.string ⟨#[46, 116, 101, 120, 116]⟩, .string ⟨#[46, 114, 111, 100, 97, 116, 97]⟩, .string ⟨#[46, 100, 97, 116, 97]⟩, .string ⟨#[46, 98, 115, 115]⟩]) (.int .i64 3)).run Try.prog W = .ok (.string ⟨#[46, 98, 115, 115]⟩) W := fun W => by kernel_rfl
      have hkl : (if headIs s.data.toList [46, 98, 115, 115] = true then 4 else kindFrom s.data.toList (kindNames.drop 4) 4) = kindOf s.data.toList := hleft
      clear hleft
      by_cases hp : s.data.toList.take 4 = [46, 98, 115, 115]
      · have cS := fun W => strings_CutPrefix.calls s ⟨#[46, 98, 115, 115]⟩ (s.extract 4 s.size) true W (cut_pre s ⟨#[46, 98, 115, 115]⟩ hp hs)
        obtain ⟨R, hR⟩ : ∃ R, s.extract 4 s.size = R := ⟨_, rfl⟩
        rw [hR] at cS
        have hRl : R.data.toList = s.data.toList.drop 4 := by rw [← hR, ext_list, List.take_of_length_le (by rw [data_length]; exact Nat.le_refl _)]
        have hsz : R.size = s.size - 4 := by have := congrArg List.length hRl; rw [data_length, List.length_drop, data_length] at this; exact this
        have hple : 4 ≤ s.size := by have := congrArg List.length hp; rw [List.length_take, data_length] at this; simp at this; omega
        have ht : R.toList = R.data.toList := ByteArray.toList_eq R
        by_cases h0 : R.size = 0
        · have hnil : R.toList = [] := by rw [ht]; exact List.eq_nil_of_length_eq_zero (by rw [data_length]; exact h0)
          have hhd : headIs s.data.toList [46, 98, 115, 115] = true := by
            have : s.size = 4 := by omega
            simp [headIs, hp, data_length, this]
          rw [if_pos hhd] at hkl
          have e1 : (R.toList == ([] : List UInt8)) = true := by rw [hnil]; rfl
          have e2 : (R.toList != ([] : List UInt8)) = false := by rw [hnil]; rfl
          have e3 : R.toList.isEmpty = true := by rw [hnil]; rfl
          obtain ⟨rfl, rfl⟩ := Prod.mk.inj (hres _ hkl.symm (by decide))
          clear hp hR hRl hsz ht h0 hhd hkl hres
          have HN := Aside0.mk hnil
          clear hnil
          go_wp2_with (go_at_call 75; refine (cS _).mono ?_; rintro e W' ⟨rfl, ⟨nd, rfl⟩⟩)
          go_ret2
          exact ⟨rfl, below_draws hbw nd⟩
        · have hnn : ¬ R.toList = [] := by rw [ht]; intro h; exact h0 (by have := congrArg List.length h; rw [data_length] at this; exact this)
          have e1 : (R.toList == ([] : List UInt8)) = false := by simpa using hnn
          have e2 : (R.toList != ([] : List UInt8)) = true := by simpa using hnn
          have e3 : R.toList.isEmpty = false := by simpa using hnn
          have q9 : 0 < R.size := by omega
          have hx9 : ∀ h : 0 < R.size, ((R[0]'h).toNat : Int) = bt R 0 := bt_at R 0
          have hbt : bt R 0 = ((s.data.toList.getD 4 0).toNat : Int) := by
            have h1 := bt_at R 0 q9
            rw [← h1]
            have h2 : (R[0]'q9) = s.data.toList.getD 4 0 := by
              have h3 : s.data.toList.getD 4 0 = R.data.toList.getD 0 0 := by rw [hRl, List.getD_eq_getElem?_getD, List.getD_eq_getElem?_getD, List.getElem?_drop]
              rw [h3, List.getD_eq_getElem?_getD, Array.getElem?_toList, Array.getElem?_eq_getElem (show 0 < R.data.size from q9)]
              rfl
            exact congrArg (fun b : UInt8 => (b.toNat : Int)) h2
          have qi9 : (0 < (R.size : Int)) = True := eq_true (by omega)
          by_cases h46 : bt R 0 = 46
          · have hhd : headIs s.data.toList [46, 98, 115, 115] = true := by
              have h5 : (s.data.toList.getD 4 0).toNat = 46 := by omega
              simp only [headIs, List.length_cons, List.length_nil, Nat.reduceAdd, hp, h5, decide_true, Bool.or_true, Bool.and_true]
            rw [if_pos hhd] at hkl
            have f46 : (bt R 0 == 46) = true := beq_iff_eq.mpr h46
            obtain ⟨rfl, rfl⟩ := Prod.mk.inj (hres _ hkl.symm (by decide))
            clear hp hR hRl hsz ht h0 hhd hkl hres hbt h46 hnn
            replace q9 := eq_true q9
            go_wp2_with (go_at_call 75; refine (cS _).mono ?_; rintro e W' ⟨rfl, ⟨nd, rfl⟩⟩)
            go_ret2
            exact ⟨rfl, below_draws hbw nd⟩
          · have hhd : ¬ headIs s.data.toList [46, 98, 115, 115] = true := by
              have h5 : ¬ (s.data.toList.getD 4 0).toNat = 46 := by omega
              have h6 : ¬ s.data.toList.length = 4 := by rw [data_length]; omega
              simp only [headIs, List.length_cons, List.length_nil, Nat.reduceAdd, hp, h5, h6, decide_true, decide_false, Bool.or_false, Bool.and_false]
              decide
            rw [if_neg hhd] at hkl
            have f46 : (bt R 0 == 46) = false := beq_eq_false_iff_ne.mpr h46
            clear hp hR hRl hsz ht h0 hhd hbt h46 hnn
            replace q9 := eq_true q9
            have HK := Aside0.mk hkl
            have HR := Aside0.mk hres
            clear hkl hres
            go_wp2_with (go_at_call 75; refine (cS _).mono ?_; rintro e W' ⟨rfl, ⟨nd, rfl⟩⟩)
            go_roundg 0
            case measure => omega
            case rel => exact ⟨4, by omega, rfl, HK.out, below_draws hbw nd⟩
      · have cS := fun W => strings_CutPrefix.calls s ⟨#[46, 98, 115, 115]⟩ s false W (cut_not s ⟨#[46, 98, 115, 115]⟩ hp hs)
        have hhd : ¬ headIs s.data.toList [46, 98, 115, 115] = true := by
          simp only [headIs, List.length_cons, List.length_nil, Nat.reduceAdd, hp, decide_false, Bool.false_and]
          decide
        rw [if_neg hhd] at hkl
        clear hp hhd
        have HK := Aside0.mk hkl
        have HR := Aside0.mk hres
        clear hkl hres
        go_wp2_with (go_at_call 75; refine (cS _).mono ?_; rintro e W' ⟨rfl, ⟨nd, rfl⟩⟩)
        go_roundg 0
        case measure => omega
        case rel => exact ⟨4, by omega, rfl, HK.out, below_draws hbw nd⟩
    · -- the names are through
      have h0 : kindOf s.data.toList = 0 := hleft.symm
      obtain ⟨rfl, rfl⟩ := Prod.mk.inj (HO.out h0)
      clear hleft h0 hres
      go_wp2
      go_ret2
      exact ⟨rfl, hbw⟩
set_option maxHeartbeats 4000000 in
set_option maxRecDepth 1000000 in
theorem sect_Kind.calls (a0 : ByteArray) (r1 : Int) (r2 : Int) (w : World) (h : sect_Kind.f a0 = some (r1, r2)) :
    Calls Try.prog 35 #[.string a0] w fun e w' => e = .returned (.tuple #[.int .u8 r1, .int .i64 r2]) ∧ Below w.heap.size w w' := by
  unfold sect_Kind.f kindAns at h
  by_cases hs : a0.size ≤ 9223372036854775807
  · rw [if_pos hs] at h
    have h := Option.some.inj h
    rw [data_length] at h
    by_cases h32 : a0.size ≤ 32
    · cases ha : allIn a0.data.toList with
      | true =>
        refine sect_Kind.rounds a0 w hs h32 ha r1 r2 (fun k hk hne => ?_) (fun h0 => ?_)
        · rw [if_pos ⟨h32, ha, by rw [hk]; exact hne⟩, hk] at h
          exact h
        · rw [if_neg (fun hh => hh.2.2 h0)] at h
          exact h
      | false =>
        rw [if_neg (fun hh => by rw [ha] at hh; cases hh.2.1)] at h
        obtain ⟨rfl, rfl⟩ := Prod.mk.inj h
        have f32 : decide ((32 : Int) < (a0.size : Int)) = false := decide_eq_false (by omega)
        have f32b : decide (32 < a0.size) = false := decide_eq_false (by omega)
        have cC := fun W => contains_odd a0 true ha W
        clear ha h
        go_enter Try.func35, Try.ntmps35
        go_wp2_with (go_at_call 73; refine (cC _).mono ?_; rintro e W' ⟨rfl, hb⟩)
        go_ret2
        exact ⟨rfl, hb⟩
    · rw [if_neg (fun hh => h32 hh.1)] at h
      obtain ⟨rfl, rfl⟩ := Prod.mk.inj h
      have f32 : decide ((32 : Int) < (a0.size : Int)) = true := decide_eq_true (by omega)
      have f32b : decide (32 < a0.size) = true := decide_eq_true (by omega)
      cases ha : allIn a0.data.toList with
      | true =>
        have cC := fun W => contains_odd a0 false ha W
        clear ha h
        go_enter Try.func35, Try.ntmps35
        go_wp2_with (go_at_call 73; refine (cC _).mono ?_; rintro e W' ⟨rfl, hb⟩)
        go_ret2
        exact ⟨rfl, hb⟩
      | false =>
        have cC := fun W => contains_odd a0 true ha W
        clear ha h
        go_enter Try.func35, Try.ntmps35
        go_wp2_with (go_at_call 73; refine (cC _).mono ?_; rintro e W' ⟨rfl, hb⟩)
        go_ret2
        exact ⟨rfl, hb⟩
  · rw [if_neg hs] at h
    cases h

end Go.Proofs.Ytomabnfeipobnaa.P
