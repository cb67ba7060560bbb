/- Texts of this seat in one (Px4), what nothing speaks of left out: by pack.py, a program of this session. -/
import Derived.Test.YtbfndlfemhidaaaGreatDoorPx0
import Derived.Test.YtbfndlfemhidaaaGreatDoorPx3
namespace Go.Proofs.YtbfndlfemhidaaaGreatDoor.P
open Go.RowKit Go.Proofs.YtbfndlfemhidaaaGreatDoor.LexP Go.Proofs.YtbfndlfemhidaaaGreatDoorW.PrintWords Go.Proofs.YtbfndlfemhidaaaGreatDoorW.PrintLast Go.Proofs.YtbfndlfemhidaaaGreatDoorW.PrintMore
theorem qaw5 {P : Prop} (h : P := by first | (go_simp; done) | (go_simp; rfl)) : P := h
theorem qaw4 {P : Prop} (h : P := by simp only [List.map_toArray, List.map_cons, List.map_nil]; rfl) : P := h
theorem qaw3 {P : Prop} (h : P := by repeat (first | (with_reducible first | exact HB.out | apply below_alloc | apply pw_below_drewN | apply below_drew1) | exact HB.out)) : P := h
theorem qaw2 {P : Prop} (h : P := by (try simp only [List.map_toArray, List.map_cons, List.map_nil]); first | done | rfl | (simp only [List.length_drop, List.length_take]; rfl)) : P := h
theorem qaw1 {P : Prop} (h : P := by exact HD_.out.below qaw3) : P := h
theorem qaw0 {P : Prop} (h : P := by exact Lib.tabBelow_of_tabIs HT.out _ qaw3) : P := h
attribute [local go_sem] max2_int min2_int max_two min_two max_three min_three max_four min_four   -- for this text's walks alone
set_option linter.unusedVariables false
set_option linter.unusedSimpArgs false

def line_counted.f (a0_0 : Int) (a0_1 : ByteArray) (a0_2 : Int) : Option (Bool) := if a0_0 = 2 then (if a0_2 ≥ 0 then (some (decide (a0_2 < 1000000000))) else (some false)) else (some false)
set_option maxHeartbeats 8000000 in
set_option maxRecDepth 100000 in
theorem line_counted.calls (a0_0 : Int) (a0_1 : ByteArray) (a0_2 : Int) (r : Bool) (w : World) (h : line_counted.f a0_0 a0_1 a0_2 = some r) :
  Calls Tryz.prog 45 #[.agg #[.int .u8 a0_0, .string a0_1, .int .i64 a0_2]] w fun e w' => e = .returned (.bool r) ∧ Below w.heap.size w w' := by
 have hu61 := Tryz.underlying61
 have HB := Aside0.mk (Below.refl w.heap.size w)
 have H : (if a0_0 = 2 then (if a0_2 ≥ 0 then (some (decide (a0_2 < 1000000000))) else (some false)) else (some false)) = some r := h
 clear h
 by_cases c2 : a0_0 = 2
 ·
  rw [if_pos c2] at H
  have c2b0 : (a0_0 == 2) = true := beq_iff_eq.mpr c2
  have c2b1 : (a0_0 != 2) = false := bne_eq_false_iff_eq.mpr c2
  clear c2
  by_cases c3 : a0_2 ≥ 0
  ·
   rw [if_pos c3] at H
   have c3b0 : decide (0 ≤ a0_2) = true := decide_eq_true c3
   clear c3
   obtain rfl := Option.some.inj H
   go_enter Tryz.func45, Tryz.ntmps45
   go_wp2_with (first | ((with_reducible refine gate_dst (N := 1) rfl ?_); refine box_event ?hg (N := 1) ?hd (cs := #[.int .u8 a0_0, .string a0_1, .int .i64 a0_2]) (t := 61) ?hr ?_; (case hd => rfl); (case hg => rfl); (case hr => exact qaw5); intro gb145 hg w4 hbox hb; have n0_ := Aside0.mk (below_step qaw3 hb); have n1_ := Aside0.mk (hbox); have n2_ := Aside0.mk ((by rw [hg]; exact (below_size qaw3) : w.heap.size ≤ gb145)); have n3_ := Aside0.mk ((by rw [hg]; exact (below_size qaw3) : w.heap.size ≤ gb145)); clear HB; have HB := n0_; have BK145 := n1_; have GW145 := n2_; have GE145 := n3_; clear n0_ n1_ n2_ n3_; clear hb hbox hg; have hcz5_0 := bc0 BK145.out; have hcz5_1 := bc1 BK145.out; have hcz5_2 := bc2 BK145.out; have hfz5_0 := blk_frozen BK145.out 0; have hfz5_1 := blk_frozen BK145.out 1; have hfz5_2 := blk_frozen BK145.out 2))
   go_ret
   exact ⟨by first | rfl | (simp [errW_none, errW_some] <;> rfl) | (simp [*, errW_none, errW_some] <;> rfl), by repeat (first | (with_reducible first | exact HB.out | apply below_alloc | apply pw_below_drewN | apply below_drew1 | refine below_set ?_ GE145.out) | exact HB.out)⟩
  ·
   rw [if_neg c3] at H
   have c3b0 : decide (0 ≤ a0_2) = false := decide_eq_false c3
   clear c3
   obtain rfl := Option.some.inj H
   go_enter Tryz.func45, Tryz.ntmps45
   go_wp2_with (first | ((with_reducible refine gate_dst (N := 1) rfl ?_); refine box_event ?hg (N := 1) ?hd (cs := #[.int .u8 a0_0, .string a0_1, .int .i64 a0_2]) (t := 61) ?hr ?_; (case hd => rfl); (case hg => rfl); (case hr => exact qaw5); intro gb145 hg w6 hbox hb; have n0_ := Aside0.mk (below_step qaw3 hb); have n1_ := Aside0.mk (hbox); have n2_ := Aside0.mk ((by rw [hg]; exact (below_size qaw3) : w.heap.size ≤ gb145)); have n3_ := Aside0.mk ((by rw [hg]; exact (below_size qaw3) : w.heap.size ≤ gb145)); clear HB; have HB := n0_; have BK145 := n1_; have GW145 := n2_; have GE145 := n3_; clear n0_ n1_ n2_ n3_; clear hb hbox hg; have hcz7_0 := bc0 BK145.out; have hcz7_1 := bc1 BK145.out; have hcz7_2 := bc2 BK145.out; have hfz7_0 := blk_frozen BK145.out 0; have hfz7_1 := blk_frozen BK145.out 1; have hfz7_2 := blk_frozen BK145.out 2))
   go_ret
   exact ⟨by first | rfl | (simp [errW_none, errW_some] <;> rfl) | (simp [*, errW_none, errW_some] <;> rfl), by repeat (first | (with_reducible first | exact HB.out | apply below_alloc | apply pw_below_drewN | apply below_drew1 | refine below_set ?_ GE145.out) | exact HB.out)⟩
 ·
  rw [if_neg c2] at H
  have c2b0 : (a0_0 == 2) = false := beq_eq_false_iff_ne.mpr c2
  have c2b1 : (a0_0 != 2) = true := bne_iff_ne.mpr c2
  obtain rfl := Option.some.inj H
  go_enter Tryz.func45, Tryz.ntmps45
  go_wp2_with (first | ((with_reducible refine gate_dst (N := 1) rfl ?_); refine box_event ?hg (N := 1) ?hd (cs := #[.int .u8 a0_0, .string a0_1, .int .i64 a0_2]) (t := 61) ?hr ?_; (case hd => rfl); (case hg => rfl); (case hr => exact qaw5); intro gb145 hg w8 hbox hb; have n0_ := Aside0.mk (below_step qaw3 hb); have n1_ := Aside0.mk (hbox); have n2_ := Aside0.mk ((by rw [hg]; exact (below_size qaw3) : w.heap.size ≤ gb145)); have n3_ := Aside0.mk ((by rw [hg]; exact (below_size qaw3) : w.heap.size ≤ gb145)); clear HB; have HB := n0_; have BK145 := n1_; have GW145 := n2_; have GE145 := n3_; clear n0_ n1_ n2_ n3_; clear hb hbox hg; have hcz9_0 := bc0 BK145.out; have hcz9_1 := bc1 BK145.out; have hcz9_2 := bc2 BK145.out; have hfz9_0 := blk_frozen BK145.out 0; have hfz9_1 := blk_frozen BK145.out 1; have hfz9_2 := blk_frozen BK145.out 2))
  go_ret
  exact ⟨by first | rfl | (simp [errW_none, errW_some] <;> rfl) | (simp [*, errW_none, errW_some] <;> rfl), by repeat (first | (with_reducible first | exact HB.out | apply below_alloc | apply pw_below_drewN | apply below_drew1 | refine below_set ?_ GE145.out) | exact HB.out)⟩


section
open Go.Proofs.YtbfndlfemhidaaaGreatDoor.Lex
namespace ZT
theorem start_f (c : UInt8) : lex_start.f c.toNat = some (startC c) := by
 have := Go.Proofs.YtbfndlfemhidaaaGreatDoor.Lex.bytes (p := fun c => lex_start.f c.toNat == some (startC c)) (by decide +kernel) c
 simpa using this
theorem digit_f (c : UInt8) : lex_digit.f c.toNat = some (digitC c) := by
 have := Go.Proofs.YtbfndlfemhidaaaGreatDoor.Lex.bytes (p := fun c => lex_digit.f c.toNat == some (digitC c)) (by decide +kernel) c
 simpa using this
theorem inside_f (c : UInt8) : lex_inside.f c.toNat = some (insideC c) := by
 have := Go.Proofs.YtbfndlfemhidaaaGreatDoor.Lex.bytes (p := fun c => lex_inside.f c.toNat == some (insideC c)) (by decide +kernel) c
 simpa using this
theorem mark_f (c : UInt8) : lex_mark.f c.toNat = some (markC c) := by
 have := Go.Proofs.YtbfndlfemhidaaaGreatDoor.Lex.bytes (p := fun c => lex_mark.f c.toNat == some (markC c)) (by decide +kernel) c
 simpa using this
theorem bt_lt (s : ByteArray) (i : Nat) (h : i < s.size) : bt s (i : Int) = (s[i].toNat : Int) := by simp [bt, h]
theorem many_drop (p : UInt8 → Bool) (s : ByteArray) (i : Nat) (h : i < s.size) : many p (s.data.toList.drop i) = if p s[i] then many p (s.data.toList.drop (i + 1)) + 1 else 0 := by
 rw [LexW.drop_at s i h, many]
theorem wrap_succ {i : Nat} (h : i < 9223372036854775807) : wrap64 ((i : Int) + 1) = ((i + 1 : Nat) : Int) := by unfold wrap64; omega
theorem many_loop {l0 : Nat → ByteArray → Int → Option Int} {q : Int → Option Bool} {p : UInt8 → Bool} (hq : ∀ c : UInt8, q c.toNat = some (p c))
  (hl : ∀ k x0 x5, l0 (k + 1) x0 x5 = if x5 < (x0.size : Int) then (if 0 ≤ x5 then ((q (bt x0 x5)).bind fun t105 => (if t105 = true then (l0 k x0 (wrap64 (x5 + 1))) else (some x5))) else none) else some x5)
  (s : ByteArray) (hs : s.size < 9223372036854775807) : ∀ (d i k : Nat), s.size = i + d → d < k → l0 k s (i : Int) = some ((i + many p (s.data.toList.drop i) : Nat) : Int) := by
 intro d
 induction d with
 | zero =>
  intro i k hi hk
  obtain ⟨k, rfl⟩ : ∃ m, k = m + 1 := ⟨k - 1, by omega⟩
  rw [hl, if_neg (by omega), LexW.drop_end s i (by omega)]
  simp [many]
 | succ d ih =>
  intro i k hi hk
  obtain ⟨k, rfl⟩ : ∃ m, k = m + 1 := ⟨k - 1, by omega⟩
  have hlt : i < s.size := by omega
  rw [hl, if_pos (by omega), if_pos (by omega), bt_lt s i hlt, hq, many_drop p s i hlt]
  simp only [Option.bind_some]
  by_cases hp : p s[i] = true
  ·
   rw [if_pos hp, if_pos hp, wrap_succ (by omega), ih (i + 1) k (by omega) (by omega)]
   congr 2
   omega
  ·
   rw [if_neg hp, if_neg hp]
   rfl
theorem many_inside_f (s : ByteArray) (hs : s.size < 9223372036854775807) (k : Nat) (hk : s.size < k) : lex_many_by_lex_inside.f k s = some ((many insideC s.data.toList : Nat) : Int) := by
 have := many_loop inside_f (fun _ _ _ => rfl) s hs s.size 0 k (by omega) hk (l0 := lex_many_by_lex_inside.l0)
 unfold lex_many_by_lex_inside.f
 simpa using this
theorem many_digit_f (s : ByteArray) (hs : s.size < 9223372036854775807) (k : Nat) (hk : s.size < k) : lex_many_by_lex_digit.f k s = some ((many digitC s.data.toList : Nat) : Int) := by
 have := many_loop digit_f (fun _ _ _ => rfl) s hs s.size 0 k (by omega) hk (l0 := lex_many_by_lex_digit.l0)
 unfold lex_many_by_lex_digit.f
 simpa using this
theorem size_data (s : ByteArray) : s.data.toList.length = s.size := by rw [Array.length_toList]; rfl
theorem extract_list (s : ByteArray) (a b : Nat) : (s.extract a b).data.toList = (s.data.toList.take b).drop a := by
 simp [ByteArray.data_extract, Array.toList_extract, List.extract_eq_take_drop, List.drop_take]
theorem name_f (s : ByteArray) (hs : s.size < 9223372036854775807) (k : Nat) (hk : s.size < k) : lex_name.f k s = some (nameL s.data.toList) := by
 unfold lex_name.f nameL
 have hsd := size_data s
 cases h : s.data.toList with
 | nil =>
  rw [h] at hsd
  simp only [List.length_nil] at hsd
  rw [if_neg (by omega)]
 | cons c t =>
  rw [h] at hsd
  simp only [List.length_cons] at hsd
  have h0 : 0 < s.size := by omega
  have hc : s[0] = c := by
   have := LexW.drop_at s 0 h0
   rw [List.drop_zero, h] at this
   injection this with this
   exact this.symm
  rw [if_pos (by omega)]
  by_cases hl : (s.size : Int) ≤ 32
  ·
   have hb := bt_lt s 0 h0
   rw [hc] at hb
   have he : (s.extract 1 s.size).data.toList = t := by
    rw [extract_list, h, List.take_of_length_le (by simp only [List.length_cons]; omega)]
    rfl
   have hes : (s.extract 1 s.size).size = t.length := by rw [← size_data, he]
   have hm := many_inside_f (s.extract 1 s.size) (by omega) k (by omega)
   rw [he] at hm
   rw [if_pos hl, if_pos (by omega), show bt s 0 = (c.toNat : Int) from hb, start_f, hm]
   simp only [Option.bind_some]
   have hw : wrap64 ((s.size : Int) - 1) = (t.length : Int) := by unfold wrap64; omega
   have e1 : decide (t.length < 32) = true := decide_eq_true (by omega)
   rw [if_pos (by omega : (1 : Int) ≤ s.size), hw, e1]
   by_cases hs : startC c = true
   ·
    rw [if_pos hs, hs]
    congr 1
    by_cases hm : many insideC t = t.length
    ·
     simp [hm]
    ·
     have : ¬ ((many insideC t : Nat) : Int) = (t.length : Int) := fun h => hm (Int.ofNat_inj.1 h)
     simp [hm, this]
   ·
    rw [if_neg hs]
    simp [hs]
  ·
   rw [if_neg hl]
   have e1 : decide (t.length < 32) = false := decide_eq_false (by omega)
   simp [e1]
theorem local_f (s : ByteArray) (hs : s.size < 9223372036854775807) (k : Nat) (hk : s.size < k) : lex_local.f k s = some (localL s.data.toList) := by
 unfold lex_local.f localL
 have hsd := size_data s
 rw [many_digit_f s hs k hk]
 simp only [Option.bind_some]
 have hle := many_le (p := digitC) s.data.toList
 generalize hn : many digitC s.data.toList = n at *
 by_cases h1 : 1 ≤ n
 ·
  rw [if_pos (by omega), decide_eq_true h1]
  by_cases h9 : n ≤ 9
  ·
   rw [if_pos (by omega), decide_eq_true h9]
   by_cases hl : s.data.toList.length = n + 1
   ·
    have hw : wrap64 ((n : Int) + 1) = ((n + 1 : Nat) : Int) := wrap_succ (by omega)
    rw [if_pos (by rw [hw]; omega), if_pos (by omega), if_pos (by omega), decide_eq_true hl]
    have hlt : n < s.size := by omega
    have hg : s.data.toList.getD n 0 = s[n] := by
     have : n < s.data.toList.length := by omega
     simp [List.getD, List.getElem?_eq_getElem this]
     rfl
    rw [bt_lt s n hlt, hg]
    generalize s[n] = c
    have := Go.Proofs.YtbfndlfemhidaaaGreatDoor.Lex.bytes (p := fun c => (if (c.toNat : Int) = 102 then some true else some ((c.toNat : Int) == 98)) == some (true && true && true && (c == 102 || c == 98))) (by decide +kernel) c
    simpa using this
   ·
    have hw : wrap64 ((n : Int) + 1) = ((n + 1 : Nat) : Int) := wrap_succ (by omega)
    rw [if_neg (by rw [hw]; omega), decide_eq_false hl]
    simp
  ·
   rw [if_neg (by omega), decide_eq_false h9]
   simp
 ·
  rw [if_neg (by omega), decide_eq_false h1]
  rfl
def toTok (x : S61) : Tok := ⟨x.f0.toNat, x.f1.data.toList, x.f2⟩
theorem arr_back (s : ByteArray) : (⟨s.data.toList.toArray⟩ : ByteArray) = s := by simp
theorem dec_itoa (n : Nat) : Lib.itoa (n : Int) = decL n := by
 rw [Lib.itoa_nonneg]
 induction n using Nat.strongRecOn with
 | _ n ih =>
  rw [Lib.decDigits, decL]
  by_cases h : n < 10
  ·
   rw [dif_pos h, if_pos h]
   rfl
  ·
   rw [dif_neg h, if_neg h, ih (n / 10) (by omega)]
   rfl
theorem hex_size (n : Nat) (h : n < 18446744073709551616) : 1 ≤ (LexW.hexL n).length ∧ (LexW.hexL n).length ≤ 16 := by
 refine ⟨?_, (LexW.hexL_pad 15 n (by omega)).2⟩
 rw [LexW.hexL]
 split <;> simp
theorem size_of (l : List UInt8) : (⟨l.toArray⟩ : ByteArray).size = l.length := by rw [← size_data]
theorem rep_f (n : Nat) (h : n ≤ 1000000) : strings_Repeat.f (⟨#[48]⟩ : ByteArray) (n : Int) = some ⟨(List.replicate n 48).toArray⟩ := by
 unfold strings_Repeat.f
 have e1 : (⟨#[48]⟩ : ByteArray).size = 1 := rfl
 rw [if_pos ⟨by omega, by omega, by omega⟩, Int.toNat_natCast]
 have : (⟨#[48]⟩ : ByteArray).data.toList = List.replicate 1 48 := rfl
 rw [this, Lib.repeatL_replicate, Nat.mul_one]
theorem wrapU (n : Int) (h0 : -9223372036854775808 ≤ n) (h1 : n < 9223372036854775808) : IntKind.u64.wrap n = (ofI64 n : Int) := by
 unfold ofI64
 rw [IntKind.wrap_u64]
 omega
theorem decide_nil (s : ByteArray) : (s.toList == ([] : List UInt8)) = decide (s.data.toList = []) := by
 rw [ByteArray.toList_eq]
 cases s.data.toList <;> rfl
theorem text_f (x : S61) (h0 : 0 ≤ x.f0) (hs : x.f1.size ≤ 100000000000) (hn : numOk (toTok x)) (k : Nat) (hk : x.f1.size + 1 < k) :
  lex_text.f k x.f0 x.f1 x.f2 = some (⟨(textL (toTok x)).1.toArray⟩, (textL (toTok x)).2) := by
 obtain ⟨a, s, n⟩ := x
 simp only [toTok] at *
 unfold lex_text.f textL
 simp only
 by_cases h1 : a = 1
 ·
  subst h1
  rw [if_pos rfl, if_pos (show (1 : Int).toNat = 1 from rfl)]
  by_cases hz : n = 0
  ·
   rw [if_pos hz, name_f s (by omega) k (by omega), local_f s (by omega) k (by omega), decide_eq_true hz]
   simp only [Option.bind_some]
   cases nameL s.data.toList <;> cases localL s.data.toList <;> simp
  ·
   rw [if_neg hz, decide_eq_false hz]
   simp
 rw [if_neg h1, if_neg (show ¬ a.toNat = 1 by omega)]
 by_cases h4 : a = 4
 ·
  subst h4
  rw [if_pos rfl, if_pos (show (4 : Int).toNat = 4 from rfl)]
  by_cases hz : n = 0
  ·
   rw [if_pos hz, decide_eq_true hz]
   by_cases hl : (s.size : Int) = 1
   ·
    have h1 : 0 < s.size := by omega
    have hg : s.data.toList.getD 0 0 = s[0] := by
     have : 0 < s.data.toList.length := by rw [size_data]; exact h1
     simp [List.getD, List.getElem?_eq_getElem this]
     rfl
    rw [if_pos hl, if_pos (by omega), show bt s 0 = (s[0].toNat : Int) from bt_lt s 0 h1, mark_f, hg, decide_eq_true (by rw [size_data]; omega)]
    simp
   ·
    rw [if_neg hl, decide_eq_false (by rw [size_data]; omega)]
    simp
  ·
   rw [if_neg hz, decide_eq_false hz]
   simp
 rw [if_neg h4, if_neg (show ¬ a.toNat = 4 by omega)]
 by_cases h3 : a = 3
 ·
  subst h3
  rw [if_pos rfl, if_pos (show (3 : Int).toNat = 3 from rfl)]
  unfold lex_shown.f
  rw [if_pos hs, LexW.shownF]
  simp only [Option.bind_some]
  cases shownL s.data.toList [34] with
  | none => rfl
  | some z =>
   simp only
   rw [if_pos trivial, size_data]
   by_cases hz : n = 0
   ·
    rw [if_pos hz, decide_eq_true hz]
    simp
    omega
   ·
    rw [if_neg hz, decide_eq_false hz]
    simp
 rw [if_neg h3, if_neg (show ¬ a.toNat = 3 by omega)]
 by_cases h2 : a = 2
 ·
  subst h2
  rw [if_pos rfl, if_pos (show (2 : Int).toNat = 2 from rfl)]
  obtain ⟨k, rfl⟩ : ∃ m, k = m + 1 := ⟨k - 1, by omega⟩
  have hn' : -9223372036854775808 ≤ n ∧ n < 9223372036854775808 := hn
  have key : ∀ b : Bool, b = decide (0 ≤ n ∧ n < 1000000000000000000) → lex_text.j0 (k + 1) b 2 s n = some (if 0 ≤ n ∧ n < 1000000000000000000 then (⟨(decL n.toNat).toArray⟩, decide (s.data.toList = [])) else (⟨([48, 120] ++ hexPad 16 (ofI64 n)).toArray⟩, decide (s.data.toList = []))) := by
   intro b hb
   simp only [lex_text.j0]
   rw [decide_nil]
   by_cases hr : 0 ≤ n ∧ n < 1000000000000000000
   ·
    rw [if_pos (by rw [hb]; exact decide_eq_true hr), if_pos hr]
    unfold strconv_Itoa.f
    rw [if_pos (by omega)]
    simp only [Option.bind_some]
    congr 4
    obtain ⟨m, rfl⟩ : ∃ m : Nat, n = m := ⟨n.toNat, by omega⟩
    rw [dec_itoa, Int.toNat_natCast]
   ·
    rw [if_neg (by rw [hb]; simpa using hr), if_neg hr, wrapU n hn'.1 hn'.2]
    have hlt : ofI64 n < 18446744073709551616 := by have := ofI64_lt n; omega
    unfold strconv_FormatUint.f
    rw [if_pos ⟨by omega, by omega, rfl⟩, Int.toNat_natCast]
    simp only [Option.bind_some]
    have hsz := hex_size _ hlt
    have hp := LexW.hexL_pad 15 (ofI64 n) (by omega)
    rw [size_of, show wrap64 (16 - ((LexW.hexL (ofI64 n)).length : Int)) = ((16 - (LexW.hexL (ofI64 n)).length : Nat) : Int) by unfold wrap64; omega, rep_f _ (by omega)]
    simp only [Option.bind_some]
    have e2 : (⟨#[48, 120]⟩ : ByteArray).size = 2 := rfl
    rw [if_pos (by rw [size_of, List.length_replicate]; omega), if_pos (by rw [ByteArray.size_append, e2, size_of (List.replicate _ _), List.length_replicate]; omega), hp.1]
    congr 2
  by_cases hge : n ≥ 0
  ·
   rw [if_pos hge, key _ (by simp [hge])]
   split <;> rfl
  ·
   rw [if_neg hge, key _ (by simp [hge])]
   split <;> rfl
 rw [if_neg h2, if_neg (show ¬ a.toNat = 2 by omega)]
end ZT
namespace LL
def atoiV (s : ByteArray) : Int := match Lib.atoiAll s.data.toList with | .ok v => v | .«syntax» => 0 | .range => Lib.atoiSat s.data.toList
theorem itoa_dec (n : Nat) : Lib.itoa (n : Int) = decL n := by
 rw [Lib.itoa_nonneg]
 induction n using Nat.strongRecOn with
 | _ n ih =>
  rw [Lib.decDigits, decL]
  by_cases h : n < 10
  ·
   rw [dif_pos h, if_pos h]
   rfl
  ·
   rw [dif_neg h, if_neg h, ih (n / 10) (by omega)]
   rfl
theorem below_or {w w' : World} {ty : Nat} (h : w' = w ∨ ∃ t, w' = Lib.bytesWorld w ty t) : Below w.heap.size w w' := by
  rcases h with rfl | ⟨t, rfl⟩
  · exact Below.refl _ _
  · exact Lib.bytesWorld_below _ _ _
theorem put3 {W : World} {b t : Nat} {x y z u v p : Value} (h : W.heap[b]? = some (.cells #[u, v, p] t (0, 0))) :
  (((W.setCell ⟨b, 0, none⟩ x).setCell ⟨b, 1, none⟩ y).setCell ⟨b, 2, none⟩ z).heap[b]? = some (.cells #[x, y, z] t (0, 0)) :=
 blk_put (cs' := #[x, y, z]) (blk_put (cs' := #[x, y, p]) (blk_put (cs' := #[x, v, p]) h 0 _ rfl) 1 _ rfl) 2 _ rfl
theorem put3_far {W : World} {g b t : Nat} {x y z : Value} {cs : Array Value} (h : W.heap[g]? = some (.cells cs t (0, 0))) (hne : g ≠ b) :
  (((W.setCell ⟨b, 0, none⟩ x).setCell ⟨b, 1, none⟩ y).setCell ⟨b, 2, none⟩ z).heap[g]? = some (.cells cs t (0, 0)) :=
 blk_far (blk_far (blk_far h hne _) hne _) hne _
set_option maxHeartbeats 4000000 in
set_option maxRecDepth 100000 in
theorem label_word (s : ByteArray) (hs : s.size ≤ 1000000) (w : World) (hT : Lib.TabIs Tryz.prog w "internal/strconv.uint64pow10" .u64 Lib.pow10Tab) (hD : LexW.LexD w) (hE : LexW.LexE w) (hN : line_name.f 2000000 s = some true) :
  Calls Tryz.prog 30 #[.string s] w fun e w' => e = .returned (.tuple #[.agg #[.int .u8 1, .string s, .int .i64 0], .bool true]) ∧ Below w.heap.size w w' := by
 have HT := Aside0.mk hT
 have HD := Aside0.mk hD
 have HE := Aside0.mk hE
 have HN := Aside0.mk hN
 have HS := Aside0.mk hs
 clear hT hD hE hN hs
 go_enter Tryz.func30, Tryz.ntmps30
 go_wp2_with (first | ((with_reducible refine gate_dst (N := 2) rfl ?_); refine box_event ?hg (N := 2) ?hd (cs := #[.int .u8 0, .string (⟨#[]⟩ : ByteArray), .int .i64 0]) (t := 61) ?hr ?_; (case hd => rfl); (case hg => rfl); (case hr => exact qaw5); intro g hg w1 hbox hb; have HB1 := Aside0.mk hb; have BG1 := Aside0.mk hbox; have GG : Aside0 (w.heap.size ≤ g) := ⟨by rw [hg]; exact Nat.le_refl _⟩; clear hb hbox hg) | (go_at_call 33; have hT1 := Lib.tabBelow_of_tabIs HT.out _ HB1.out; (with_reducible refine (line_name.calls 2000000 s true _ hT1 (HD.out.below HB1.out) HN.out).mono ?_); rintro e w2 ⟨rfl, hb⟩; have HB2 := Aside0.mk (below_step HB1.out hb); have BG2 := Aside0.mk (blk_below BG1.out hb); clear hb hT1) | (go_at_call 32; (with_reducible refine (line_word.calls s 1 s 0 _ rfl).mono ?_); rintro e w3 ⟨rfl, hb⟩; have HB3 := Aside0.mk (below_step HB2.out hb); have BG3 := Aside0.mk (blk_below BG2.out hb); have c0 := bc0 BG3.out; have cf0 := blk_frozen BG3.out 0; have c1 := bc1 BG3.out; have cf1 := blk_frozen BG3.out 1; have c2 := bc2 BG3.out; have cf2 := blk_frozen BG3.out 2;  clear hb))
 refine bodyPost_ret (results_ct rfl _ _ g 61 #[.int .u8 1, .string s, .int .i64 0] (0, 0) _ rfl (put3 BG3.out) Tryz.underlying61 rfl (by kernel_rfl)) rfl ?_
 exact ⟨rfl, below_set (below_set (below_set HB3.out GG.out) GG.out) GG.out⟩

set_option maxHeartbeats 4000000 in
set_option maxRecDepth 100000 in
theorem label_yes (s : ByteArray) (hs : s.size ≤ 1000000) (w : World) (hT : Lib.TabIs Tryz.prog w "internal/strconv.uint64pow10" .u64 Lib.pow10Tab) (hD : LexW.LexD w) (hE : LexW.LexE w) (hN : line_name.f 2000000 s = some false) (n : Int) (T : ByteArray) (hA : Lib.atoiAll s.data.toList = .ok n) (hC : line_counted.f 2 (⟨#[]⟩ : ByteArray) n = some true) (hI : strconv_Itoa.f n = some T) (hQ : (T.toList == s.toList) = true) :
  Calls Tryz.prog 30 #[.string s] w fun e w' => e = .returned (.tuple #[.agg #[.int .u8 2, .string (⟨#[]⟩ : ByteArray), .int .i64 n], .bool true]) ∧ Below w.heap.size w w' := by
 have HT := Aside0.mk hT
 have HD := Aside0.mk hD
 have HE := Aside0.mk hE
 have HN := Aside0.mk hN
 have HS := Aside0.mk hs
 clear hT hD hE hN hs
 have HA := Aside0.mk hA
 have HC := Aside0.mk hC
 clear hC
 have HI := Aside0.mk hI
 clear hI
 clear hA
 go_enter Tryz.func30, Tryz.ntmps30
 go_wp2_with (first | ((with_reducible refine gate_dst (N := 2) rfl ?_); refine box_event ?hg (N := 2) ?hd (cs := #[.int .u8 0, .string (⟨#[]⟩ : ByteArray), .int .i64 0]) (t := 61) ?hr ?_; (case hd => rfl); (case hg => rfl); (case hr => exact qaw5); intro g hg w1 hbox hb; have HB1 := Aside0.mk hb; have BG1 := Aside0.mk hbox; have GG : Aside0 (w.heap.size ≤ g) := ⟨by rw [hg]; exact Nat.le_refl _⟩; clear hb hbox hg) | (go_at_call 33; have hT1 := Lib.tabBelow_of_tabIs HT.out _ HB1.out; (with_reducible refine (line_name.calls 2000000 s false _ hT1 (HD.out.below HB1.out) HN.out).mono ?_); rintro e w2 ⟨rfl, hb⟩; have HB2 := Aside0.mk (below_step HB1.out hb); have BG2 := Aside0.mk (blk_below BG1.out hb); clear hb hT1) | (go_at_call 48; (with_reducible refine (Tryz.strconv_Atoi_ok s (by have := HS.out; omega) n HA.out _).mono ?_); rintro e w3 ⟨rfl, hw⟩; have hb := below_or hw; have HB3 := Aside0.mk (below_step HB2.out hb); have BG3 := Aside0.mk (blk_below BG2.out hb); clear hb hw) | ((with_reducible refine gate_dst (N := 6) rfl ?_); refine box_event ?hg (N := 6) ?hd (cs := #[.int .u8 0, .string (⟨#[]⟩ : ByteArray), .int .i64 0]) (t := 61) ?hr ?_; (case hd => rfl); (case hg => rfl); (case hr => exact qaw5); intro q hg w4 hbox hb; have HB4 := Aside0.mk (below_step HB3.out hb); have BG4 := Aside0.mk (blk_below BG3.out hb); have BQ4 := Aside0.mk hbox; have GQ : Aside0 (w.heap.size ≤ q) := ⟨by rw [hg]; exact below_size HB3.out⟩; have NE : Aside0 (g ≠ q) := ⟨by rw [hg]; exact Nat.ne_of_lt (blk_lt BG3.out)⟩; have c0 := bc0 hbox; have cf0 := blk_frozen hbox 0; have c1 := bc1 hbox; have cf1 := blk_frozen hbox 1; have c2 := bc2 hbox; have cf2 := blk_frozen hbox 2;  clear hb hbox hg))
 have BQ5 := Aside0.mk (put3 (x := .int .u8 2) (y := .string (⟨#[]⟩ : ByteArray)) (z := .int .i64 n) BQ4.out)
 have BG5 := Aside0.mk (put3_far (x := .int .u8 2) (y := .string (⟨#[]⟩ : ByteArray)) (z := .int .i64 n) BG4.out NE.out)
 have HB5 := Aside0.mk (below_set (v := .int .i64 n) (j := 2) (below_set (v := .string (⟨#[]⟩ : ByteArray)) (j := 1) (below_set (v := .int .u8 2) (j := 0) HB4.out GQ.out) GQ.out) GQ.out)
 obtain ⟨w5, hw5⟩ : ∃ W, W = ((w4.setCell ⟨q, 0, none⟩ (.int .u8 2)).setCell ⟨q, 1, none⟩ (.string (⟨#[]⟩ : ByteArray))).setCell ⟨q, 2, none⟩ (.int .i64 n) := ⟨_, rfl⟩
 rw [← hw5] at BQ5 BG5 HB5 ⊢
 clear hw5 BQ4 BG4 HB4 c0 cf0 c1 cf1 c2 cf2
 have z0 := bc0 BQ5.out
 have z1 := bc1 BQ5.out
 have z2 := bc2 BQ5.out
 have P0B := Aside0.mk (below_drew1 HB5.out)
 have P0G := Aside0.mk (blk_drew BG5.out)
 refine start_ (n := 15) (S := fun w' => w'.cell? ⟨q, 0, none⟩ = some (.int .u8 2) ∧ w'.cell? ⟨q, 1, none⟩ = some (.string (⟨#[]⟩ : ByteArray)) ∧ w'.cell? ⟨q, 2, none⟩ = some (.int .i64 n)) (ds := [13]) #[false, false, false, false, false, false, false, false, false, false, false, false, false, false, false] (by kernel_rfl) rfl rfl ⟨z0, z1, z2⟩ (fun hHeld => ?_)
 refine pure_ (i := 1) (N := some 19) (v := ?_) (a' := ?_) #[false, true, false, false, false, false, false, false, false, false, false, false, false, false, false] rfl rfl (by kernel_rfl) (fun _ _ _ h => h) (Or.inl ⟨by rfl, ?_⟩) ?_ ?_
 rotate_left
 ·
  intro w'
  go_simp
  with_reducible rfl
 rotate_left
 ·
  simp only [Act.put, List.setIfInBounds_toArray, List.set_cons_zero, List.set_cons_succ, i64_w, i32_w]
  rfl
 refine pure_ (i := 2) (N := some 20) (v := ?_) (a' := ?_) #[false, true, true, false, false, false, false, false, false, false, false, false, false, false, false] rfl rfl (by kernel_rfl) (fun _ _ _ h => h) (Or.inl ⟨by rfl, ?_⟩) ?_ ?_
 rotate_left
 ·
  intro w'
  go_simp
  with_reducible rfl
 rotate_left
 ·
  simp only [Act.put, List.setIfInBounds_toArray, List.set_cons_zero, List.set_cons_succ, i64_w, i32_w]
  rfl
 refine pure_ (i := 3) (N := some 21) (v := ?_) (a' := ?_) #[false, true, true, true, false, false, false, false, false, false, false, false, false, false, false] rfl rfl (by kernel_rfl) (fun _ _ _ h => h) (Or.inl ⟨by rfl, ?_⟩) ?_ ?_
 rotate_left
 ·
  intro w'
  go_simp
  with_reducible rfl
 rotate_left
 ·
  simp only [Act.put, List.setIfInBounds_toArray, List.set_cons_zero, List.set_cons_succ, i64_w, i32_w]
  rfl
 refine take_ (i := 0) (N := some 18) (v := ?_) (a' := ?_) #[true, true, true, true, false, false, false, false, false, false, false, false, false, false, false] rfl rfl (by kernel_rfl) (fun _ _ _ h => h) (Or.inl ⟨by rfl, ?_⟩) hHeld ?_ ?_
 rotate_left
 ·
  rintro w' ⟨s0, s1, s2⟩
  go_simp
  with_reducible rfl
 rotate_left
 ·
  simp only [Act.put, List.setIfInBounds_toArray, List.set_cons_zero, List.set_cons_succ, i64_w, i32_w]
  rfl
 refine take_ (i := 4) (N := some 22) (v := ?_) (a' := ?_) #[true, true, true, true, true, false, false, false, false, false, false, false, false, false, false] rfl rfl (by kernel_rfl) (fun _ _ _ h => h) (Or.inl ⟨by rfl, ?_⟩) hHeld ?_ ?_
 rotate_left
 ·
  rintro w' ⟨s0, s1, s2⟩
  go_simp
  with_reducible rfl
 rotate_left
 ·
  simp only [Act.put, List.setIfInBounds_toArray, List.set_cons_zero, List.set_cons_succ, i64_w, i32_w]
  rfl
 refine one_ (i := 5) (N := some 23) #[true, true, true, true, true, true, false, false, false, false, false, false, false, false, false] rfl rfl (by kernel_rfl) (by decide) (fun K hK => ?_)
 refine goes_ Tryz.func45 (by kernel_rfl) rfl #[.agg #[.int .u8 2, .string (⟨#[]⟩ : ByteArray), .int .i64 n]] (by rfl) rfl rfl qaw4 ?_
 with_reducible refine (line_counted.calls 2 (⟨#[]⟩ : ByteArray) n true _ HC.out).mono ?_
 rintro e w6 ⟨rfl, hb⟩
 refine ⟨_, rfl, ?_⟩
 have P1B := Aside0.mk (below_step P0B.out hb)
 have P1G := Aside0.mk (blk_below P0G.out hb)
 refine hK.out _ _ ⟨((hb.cell (World.block_lt_of_cell? _ _ hHeld.1)).trans hHeld.1), ((hb.cell (World.block_lt_of_cell? _ _ hHeld.2.1)).trans hHeld.2.1), ((hb.cell (World.block_lt_of_cell? _ _ hHeld.2.2)).trans hHeld.2.2)⟩ (fun hHeld => ?_)
 clear hK K
 refine norm_ (a' := ?_) ?_ ?_
 rotate_left
 ·
  show Act.put _ (some 23) _ = _
  simp only [Act.put, List.setIfInBounds_toArray, List.set_cons_zero, List.set_cons_succ, i64_w, i32_w]
  rfl
 refine pure_ (i := 6) (N := some 24) (v := ?_) (a' := ?_) #[true, true, true, true, true, true, true, false, false, false, false, false, false, false, false] rfl rfl (by kernel_rfl) (fun _ _ _ h => h) (Or.inl ⟨by rfl, ?_⟩) ?_ ?_
 rotate_left
 ·
  intro w'
  go_simp
  with_reducible rfl
 rotate_left
 ·
  simp only [Act.put, List.setIfInBounds_toArray, List.set_cons_zero, List.set_cons_succ, i64_w, i32_w]
  rfl
 refine pure_ (i := 7) (N := some 25) (v := ?_) (a' := ?_) #[true, true, true, true, true, true, true, true, false, false, false, false, false, false, false] rfl rfl (by kernel_rfl) (fun _ _ _ h => h) (Or.inl ⟨by rfl, ?_⟩) ?_ ?_
 rotate_left
 ·
  intro w'
  go_simp
  with_reducible rfl
 rotate_left
 ·
  simp only [Act.put, List.setIfInBounds_toArray, List.set_cons_zero, List.set_cons_succ, i64_w, i32_w]
  rfl
 refine pure_ (i := 8) (N := some 26) (v := ?_) (a' := ?_) #[true, true, true, true, true, true, true, true, true, false, false, false, false, false, false] rfl rfl (by kernel_rfl) (fun _ _ _ h => h) (Or.inl ⟨by rfl, ?_⟩) ?_ ?_
 rotate_left
 ·
  intro w'
  go_simp
  with_reducible rfl
 rotate_left
 ·
  simp only [Act.put, List.setIfInBounds_toArray, List.set_cons_zero, List.set_cons_succ, i64_w, i32_w]
  rfl
 refine pure_ (i := 10) (N := some 28) (v := ?_) (a' := ?_) #[true, true, true, true, true, true, true, true, true, false, true, false, false, false, false] rfl rfl (by kernel_rfl) (fun _ _ _ h => h) (Or.inl ⟨by rfl, ?_⟩) ?_ ?_
 rotate_left
 ·
  intro w'
  go_simp
  with_reducible rfl
 rotate_left
 ·
  simp only [Act.put, List.setIfInBounds_toArray, List.set_cons_zero, List.set_cons_succ, i64_w, i32_w]
  rfl
 refine one_ (i := 9) (N := some 27) #[true, true, true, true, true, true, true, true, true, true, true, false, false, false, false] rfl rfl (by kernel_rfl) (by decide) (fun K hK => ?_)
 have hT9 := Lib.tabBelow_of_tabIs HT.out _ P1B.out
 refine goes_ Tryz.func46 (by kernel_rfl) rfl #[.int .i64 n] (by rfl) rfl rfl qaw4 ?_
 with_reducible refine (strconv_Itoa.calls n T _ hT9 HI.out).mono ?_
 rintro e w7 ⟨rfl, hb⟩
 refine ⟨_, rfl, ?_⟩
 have P2B := Aside0.mk (below_step P1B.out hb)
 have P2G := Aside0.mk (blk_below P1G.out hb)
 refine hK.out _ _ ⟨((hb.cell (World.block_lt_of_cell? _ _ hHeld.1)).trans hHeld.1), ((hb.cell (World.block_lt_of_cell? _ _ hHeld.2.1)).trans hHeld.2.1), ((hb.cell (World.block_lt_of_cell? _ _ hHeld.2.2)).trans hHeld.2.2)⟩ (fun hHeld => ?_)
 clear hK K
 refine norm_ (a' := ?_) ?_ ?_
 rotate_left
 ·
  show Act.put _ (some 27) _ = _
  simp only [Act.put, List.setIfInBounds_toArray, List.set_cons_zero, List.set_cons_succ, i64_w, i32_w]
  rfl
 refine pure_ (i := 11) (N := some 29) (v := ?_) (a' := ?_) #[true, true, true, true, true, true, true, true, true, true, true, true, false, false, false] rfl rfl (by kernel_rfl) (fun _ _ _ h => h) (Or.inl ⟨by rfl, ?_⟩) ?_ ?_
 rotate_left
 ·
  intro w'
  go_simp
  with_reducible rfl
 rotate_left
 ·
  simp only [Act.put, List.setIfInBounds_toArray, List.set_cons_zero, List.set_cons_succ, i64_w, i32_w]
  rfl
 refine pure_ (i := 12) (N := some 30) (v := ?_) (a' := ?_) #[true, true, true, true, true, true, true, true, true, true, true, true, true, false, false] rfl rfl (by kernel_rfl) (fun _ _ _ h => h) (Or.inl ⟨by rfl, ?_⟩) ?_ ?_
 rotate_left
 ·
  intro w'
  go_simp
  with_reducible rfl
 rotate_left
 ·
  simp only [Act.put, List.setIfInBounds_toArray, List.set_cons_zero, List.set_cons_succ, i64_w, i32_w]
  rfl
 refine last_ (i := 13) (N := none) #[true, true, true, true, true, true, true, true, true, true, true, true, true, true, false] rfl rfl (by kernel_rfl) (by decide) (fun K hK => ?_)
 have v0 := (blk_cell P2G.out 0)
 have v1 := (blk_cell P2G.out 1)
 have v2 := (blk_cell P2G.out 2)
 have vf0 := blk_frozen P2G.out 0
 have vf1 := blk_frozen P2G.out 1
 have vf2 := blk_frozen P2G.out 2
 simp only [List.getElem?_toArray, List.getElem?_cons_zero, List.getElem?_cons_succ] at v0 v1 v2
 refine skip_ (w1 := ?_) (by rfl) rfl ?_ ?_
 rotate_left
 ·
  go_simp
  rfl
 refine hK.out _ _ ?_
 clear hK K
 refine pure_ (i := 14) (N := some 3) (v := ?_) (a' := ?_) #[true, true, true, true, true, true, true, true, true, true, true, true, true, true, true] rfl rfl (by kernel_rfl) (fun _ _ _ h => h) (Or.inl ⟨by rfl, ?_⟩) ?_ ?_
 rotate_left
 ·
  intro w'
  go_simp
  with_reducible rfl
 rotate_left
 ·
  simp only [Act.put, List.setIfInBounds_toArray, List.set_cons_zero, List.set_cons_succ, i64_w, i32_w]
  rfl
 refine done_ (by kernel_rfl) ?_
 go_wp2
 refine bodyPost_ret (results_ct rfl _ _ g 61 #[.int .u8 2, .string (⟨#[]⟩ : ByteArray), .int .i64 n] (0, 0) _ rfl (put3 P2G.out) Tryz.underlying61 rfl (by kernel_rfl)) rfl ?_
 exact ⟨rfl, below_set (below_set (below_set P2B.out GG.out) GG.out) GG.out⟩

set_option maxHeartbeats 4000000 in
set_option maxRecDepth 100000 in
theorem label_no (s : ByteArray) (hs : s.size ≤ 1000000) (w : World) (hT : Lib.TabIs Tryz.prog w "internal/strconv.uint64pow10" .u64 Lib.pow10Tab) (hD : LexW.LexD w) (hE : LexW.LexE w) (hN : line_name.f 2000000 s = some false) (n : Int) (T : ByteArray) (hA : Lib.atoiAll s.data.toList = .ok n) (hC : line_counted.f 2 (⟨#[]⟩ : ByteArray) n = some true) (hI : strconv_Itoa.f n = some T) (hQ : (T.toList == s.toList) = false) :
  Calls Tryz.prog 30 #[.string s] w fun e w' => e = .returned (.tuple #[.agg #[.int .u8 2, .string (⟨#[]⟩ : ByteArray), .int .i64 n], .bool false]) ∧ Below w.heap.size w w' := by
 have HT := Aside0.mk hT
 have HD := Aside0.mk hD
 have HE := Aside0.mk hE
 have HN := Aside0.mk hN
 have HS := Aside0.mk hs
 clear hT hD hE hN hs
 have HA := Aside0.mk hA
 have HC := Aside0.mk hC
 clear hC
 have HI := Aside0.mk hI
 clear hI
 clear hA
 go_enter Tryz.func30, Tryz.ntmps30
 go_wp2_with (first | ((with_reducible refine gate_dst (N := 2) rfl ?_); refine box_event ?hg (N := 2) ?hd (cs := #[.int .u8 0, .string (⟨#[]⟩ : ByteArray), .int .i64 0]) (t := 61) ?hr ?_; (case hd => rfl); (case hg => rfl); (case hr => exact qaw5); intro g hg w1 hbox hb; have HB1 := Aside0.mk hb; have BG1 := Aside0.mk hbox; have GG : Aside0 (w.heap.size ≤ g) := ⟨by rw [hg]; exact Nat.le_refl _⟩; clear hb hbox hg) | (go_at_call 33; have hT1 := Lib.tabBelow_of_tabIs HT.out _ HB1.out; (with_reducible refine (line_name.calls 2000000 s false _ hT1 (HD.out.below HB1.out) HN.out).mono ?_); rintro e w2 ⟨rfl, hb⟩; have HB2 := Aside0.mk (below_step HB1.out hb); have BG2 := Aside0.mk (blk_below BG1.out hb); clear hb hT1) | (go_at_call 48; (with_reducible refine (Tryz.strconv_Atoi_ok s (by have := HS.out; omega) n HA.out _).mono ?_); rintro e w3 ⟨rfl, hw⟩; have hb := below_or hw; have HB3 := Aside0.mk (below_step HB2.out hb); have BG3 := Aside0.mk (blk_below BG2.out hb); clear hb hw) | ((with_reducible refine gate_dst (N := 6) rfl ?_); refine box_event ?hg (N := 6) ?hd (cs := #[.int .u8 0, .string (⟨#[]⟩ : ByteArray), .int .i64 0]) (t := 61) ?hr ?_; (case hd => rfl); (case hg => rfl); (case hr => exact qaw5); intro q hg w4 hbox hb; have HB4 := Aside0.mk (below_step HB3.out hb); have BG4 := Aside0.mk (blk_below BG3.out hb); have BQ4 := Aside0.mk hbox; have GQ : Aside0 (w.heap.size ≤ q) := ⟨by rw [hg]; exact below_size HB3.out⟩; have NE : Aside0 (g ≠ q) := ⟨by rw [hg]; exact Nat.ne_of_lt (blk_lt BG3.out)⟩; have c0 := bc0 hbox; have cf0 := blk_frozen hbox 0; have c1 := bc1 hbox; have cf1 := blk_frozen hbox 1; have c2 := bc2 hbox; have cf2 := blk_frozen hbox 2;  clear hb hbox hg))
 have BQ5 := Aside0.mk (put3 (x := .int .u8 2) (y := .string (⟨#[]⟩ : ByteArray)) (z := .int .i64 n) BQ4.out)
 have BG5 := Aside0.mk (put3_far (x := .int .u8 2) (y := .string (⟨#[]⟩ : ByteArray)) (z := .int .i64 n) BG4.out NE.out)
 have HB5 := Aside0.mk (below_set (v := .int .i64 n) (j := 2) (below_set (v := .string (⟨#[]⟩ : ByteArray)) (j := 1) (below_set (v := .int .u8 2) (j := 0) HB4.out GQ.out) GQ.out) GQ.out)
 obtain ⟨w5, hw5⟩ : ∃ W, W = ((w4.setCell ⟨q, 0, none⟩ (.int .u8 2)).setCell ⟨q, 1, none⟩ (.string (⟨#[]⟩ : ByteArray))).setCell ⟨q, 2, none⟩ (.int .i64 n) := ⟨_, rfl⟩
 rw [← hw5] at BQ5 BG5 HB5 ⊢
 clear hw5 BQ4 BG4 HB4 c0 cf0 c1 cf1 c2 cf2
 have z0 := bc0 BQ5.out
 have z1 := bc1 BQ5.out
 have z2 := bc2 BQ5.out
 have P0B := Aside0.mk (below_drew1 HB5.out)
 have P0G := Aside0.mk (blk_drew BG5.out)
 refine start_ (n := 15) (S := fun w' => w'.cell? ⟨q, 0, none⟩ = some (.int .u8 2) ∧ w'.cell? ⟨q, 1, none⟩ = some (.string (⟨#[]⟩ : ByteArray)) ∧ w'.cell? ⟨q, 2, none⟩ = some (.int .i64 n)) (ds := [13]) #[false, false, false, false, false, false, false, false, false, false, false, false, false, false, false] (by kernel_rfl) rfl rfl ⟨z0, z1, z2⟩ (fun hHeld => ?_)
 refine pure_ (i := 1) (N := some 19) (v := ?_) (a' := ?_) #[false, true, false, false, false, false, false, false, false, false, false, false, false, false, false] rfl rfl (by kernel_rfl) (fun _ _ _ h => h) (Or.inl ⟨by rfl, ?_⟩) ?_ ?_
 rotate_left
 ·
  intro w'
  go_simp
  with_reducible rfl
 rotate_left
 ·
  simp only [Act.put, List.setIfInBounds_toArray, List.set_cons_zero, List.set_cons_succ, i64_w, i32_w]
  rfl
 refine pure_ (i := 2) (N := some 20) (v := ?_) (a' := ?_) #[false, true, true, false, false, false, false, false, false, false, false, false, false, false, false] rfl rfl (by kernel_rfl) (fun _ _ _ h => h) (Or.inl ⟨by rfl, ?_⟩) ?_ ?_
 rotate_left
 ·
  intro w'
  go_simp
  with_reducible rfl
 rotate_left
 ·
  simp only [Act.put, List.setIfInBounds_toArray, List.set_cons_zero, List.set_cons_succ, i64_w, i32_w]
  rfl
 refine pure_ (i := 3) (N := some 21) (v := ?_) (a' := ?_) #[false, true, true, true, false, false, false, false, false, false, false, false, false, false, false] rfl rfl (by kernel_rfl) (fun _ _ _ h => h) (Or.inl ⟨by rfl, ?_⟩) ?_ ?_
 rotate_left
 ·
  intro w'
  go_simp
  with_reducible rfl
 rotate_left
 ·
  simp only [Act.put, List.setIfInBounds_toArray, List.set_cons_zero, List.set_cons_succ, i64_w, i32_w]
  rfl
 refine take_ (i := 0) (N := some 18) (v := ?_) (a' := ?_) #[true, true, true, true, false, false, false, false, false, false, false, false, false, false, false] rfl rfl (by kernel_rfl) (fun _ _ _ h => h) (Or.inl ⟨by rfl, ?_⟩) hHeld ?_ ?_
 rotate_left
 ·
  rintro w' ⟨s0, s1, s2⟩
  go_simp
  with_reducible rfl
 rotate_left
 ·
  simp only [Act.put, List.setIfInBounds_toArray, List.set_cons_zero, List.set_cons_succ, i64_w, i32_w]
  rfl
 refine take_ (i := 4) (N := some 22) (v := ?_) (a' := ?_) #[true, true, true, true, true, false, false, false, false, false, false, false, false, false, false] rfl rfl (by kernel_rfl) (fun _ _ _ h => h) (Or.inl ⟨by rfl, ?_⟩) hHeld ?_ ?_
 rotate_left
 ·
  rintro w' ⟨s0, s1, s2⟩
  go_simp
  with_reducible rfl
 rotate_left
 ·
  simp only [Act.put, List.setIfInBounds_toArray, List.set_cons_zero, List.set_cons_succ, i64_w, i32_w]
  rfl
 refine one_ (i := 5) (N := some 23) #[true, true, true, true, true, true, false, false, false, false, false, false, false, false, false] rfl rfl (by kernel_rfl) (by decide) (fun K hK => ?_)
 refine goes_ Tryz.func45 (by kernel_rfl) rfl #[.agg #[.int .u8 2, .string (⟨#[]⟩ : ByteArray), .int .i64 n]] (by rfl) rfl rfl qaw4 ?_
 with_reducible refine (line_counted.calls 2 (⟨#[]⟩ : ByteArray) n true _ HC.out).mono ?_
 rintro e w6 ⟨rfl, hb⟩
 refine ⟨_, rfl, ?_⟩
 have P1B := Aside0.mk (below_step P0B.out hb)
 have P1G := Aside0.mk (blk_below P0G.out hb)
 refine hK.out _ _ ⟨((hb.cell (World.block_lt_of_cell? _ _ hHeld.1)).trans hHeld.1), ((hb.cell (World.block_lt_of_cell? _ _ hHeld.2.1)).trans hHeld.2.1), ((hb.cell (World.block_lt_of_cell? _ _ hHeld.2.2)).trans hHeld.2.2)⟩ (fun hHeld => ?_)
 clear hK K
 refine norm_ (a' := ?_) ?_ ?_
 rotate_left
 ·
  show Act.put _ (some 23) _ = _
  simp only [Act.put, List.setIfInBounds_toArray, List.set_cons_zero, List.set_cons_succ, i64_w, i32_w]
  rfl
 refine pure_ (i := 6) (N := some 24) (v := ?_) (a' := ?_) #[true, true, true, true, true, true, true, false, false, false, false, false, false, false, false] rfl rfl (by kernel_rfl) (fun _ _ _ h => h) (Or.inl ⟨by rfl, ?_⟩) ?_ ?_
 rotate_left
 ·
  intro w'
  go_simp
  with_reducible rfl
 rotate_left
 ·
  simp only [Act.put, List.setIfInBounds_toArray, List.set_cons_zero, List.set_cons_succ, i64_w, i32_w]
  rfl
 refine pure_ (i := 7) (N := some 25) (v := ?_) (a' := ?_) #[true, true, true, true, true, true, true, true, false, false, false, false, false, false, false] rfl rfl (by kernel_rfl) (fun _ _ _ h => h) (Or.inl ⟨by rfl, ?_⟩) ?_ ?_
 rotate_left
 ·
  intro w'
  go_simp
  with_reducible rfl
 rotate_left
 ·
  simp only [Act.put, List.setIfInBounds_toArray, List.set_cons_zero, List.set_cons_succ, i64_w, i32_w]
  rfl
 refine pure_ (i := 8) (N := some 26) (v := ?_) (a' := ?_) #[true, true, true, true, true, true, true, true, true, false, false, false, false, false, false] rfl rfl (by kernel_rfl) (fun _ _ _ h => h) (Or.inl ⟨by rfl, ?_⟩) ?_ ?_
 rotate_left
 ·
  intro w'
  go_simp
  with_reducible rfl
 rotate_left
 ·
  simp only [Act.put, List.setIfInBounds_toArray, List.set_cons_zero, List.set_cons_succ, i64_w, i32_w]
  rfl
 refine pure_ (i := 10) (N := some 28) (v := ?_) (a' := ?_) #[true, true, true, true, true, true, true, true, true, false, true, false, false, false, false] rfl rfl (by kernel_rfl) (fun _ _ _ h => h) (Or.inl ⟨by rfl, ?_⟩) ?_ ?_
 rotate_left
 ·
  intro w'
  go_simp
  with_reducible rfl
 rotate_left
 ·
  simp only [Act.put, List.setIfInBounds_toArray, List.set_cons_zero, List.set_cons_succ, i64_w, i32_w]
  rfl
 refine one_ (i := 9) (N := some 27) #[true, true, true, true, true, true, true, true, true, true, true, false, false, false, false] rfl rfl (by kernel_rfl) (by decide) (fun K hK => ?_)
 have hT9 := Lib.tabBelow_of_tabIs HT.out _ P1B.out
 refine goes_ Tryz.func46 (by kernel_rfl) rfl #[.int .i64 n] (by rfl) rfl rfl qaw4 ?_
 with_reducible refine (strconv_Itoa.calls n T _ hT9 HI.out).mono ?_
 rintro e w7 ⟨rfl, hb⟩
 refine ⟨_, rfl, ?_⟩
 have P2B := Aside0.mk (below_step P1B.out hb)
 have P2G := Aside0.mk (blk_below P1G.out hb)
 refine hK.out _ _ ⟨((hb.cell (World.block_lt_of_cell? _ _ hHeld.1)).trans hHeld.1), ((hb.cell (World.block_lt_of_cell? _ _ hHeld.2.1)).trans hHeld.2.1), ((hb.cell (World.block_lt_of_cell? _ _ hHeld.2.2)).trans hHeld.2.2)⟩ (fun hHeld => ?_)
 clear hK K
 refine norm_ (a' := ?_) ?_ ?_
 rotate_left
 ·
  show Act.put _ (some 27) _ = _
  simp only [Act.put, List.setIfInBounds_toArray, List.set_cons_zero, List.set_cons_succ, i64_w, i32_w]
  rfl
 refine pure_ (i := 11) (N := some 29) (v := ?_) (a' := ?_) #[true, true, true, true, true, true, true, true, true, true, true, true, false, false, false] rfl rfl (by kernel_rfl) (fun _ _ _ h => h) (Or.inl ⟨by rfl, ?_⟩) ?_ ?_
 rotate_left
 ·
  intro w'
  go_simp
  with_reducible rfl
 rotate_left
 ·
  simp only [Act.put, List.setIfInBounds_toArray, List.set_cons_zero, List.set_cons_succ, i64_w, i32_w]
  rfl
 refine pure_ (i := 12) (N := some 30) (v := ?_) (a' := ?_) #[true, true, true, true, true, true, true, true, true, true, true, true, true, false, false] rfl rfl (by kernel_rfl) (fun _ _ _ h => h) (Or.inl ⟨by rfl, ?_⟩) ?_ ?_
 rotate_left
 ·
  intro w'
  go_simp
  with_reducible rfl
 rotate_left
 ·
  simp only [Act.put, List.setIfInBounds_toArray, List.set_cons_zero, List.set_cons_succ, i64_w, i32_w]
  rfl
 refine last_ (i := 13) (N := none) #[true, true, true, true, true, true, true, true, true, true, true, true, true, true, false] rfl rfl (by kernel_rfl) (by decide) (fun K hK => ?_)
 have v0 := (blk_cell P2G.out 0)
 have v1 := (blk_cell P2G.out 1)
 have v2 := (blk_cell P2G.out 2)
 have vf0 := blk_frozen P2G.out 0
 have vf1 := blk_frozen P2G.out 1
 have vf2 := blk_frozen P2G.out 2
 simp only [List.getElem?_toArray, List.getElem?_cons_zero, List.getElem?_cons_succ] at v0 v1 v2
 refine skip_ (w1 := ?_) (by rfl) rfl ?_ ?_
 rotate_left
 ·
  go_simp
  rfl
 refine hK.out _ _ ?_
 clear hK K
 refine pure_ (i := 14) (N := some 3) (v := ?_) (a' := ?_) #[true, true, true, true, true, true, true, true, true, true, true, true, true, true, true] rfl rfl (by kernel_rfl) (fun _ _ _ h => h) (Or.inl ⟨by rfl, ?_⟩) ?_ ?_
 rotate_left
 ·
  intro w'
  go_simp
  with_reducible rfl
 rotate_left
 ·
  simp only [Act.put, List.setIfInBounds_toArray, List.set_cons_zero, List.set_cons_succ, i64_w, i32_w]
  rfl
 refine done_ (by kernel_rfl) ?_
 go_wp2
 refine bodyPost_ret (results_ct rfl _ _ g 61 #[.int .u8 2, .string (⟨#[]⟩ : ByteArray), .int .i64 n] (0, 0) _ rfl (put3 P2G.out) Tryz.underlying61 rfl (by kernel_rfl)) rfl ?_
 exact ⟨rfl, below_set (below_set (below_set P2B.out GG.out) GG.out) GG.out⟩

set_option maxHeartbeats 4000000 in
set_option maxRecDepth 100000 in
theorem label_great (s : ByteArray) (hs : s.size ≤ 1000000) (w : World) (hT : Lib.TabIs Tryz.prog w "internal/strconv.uint64pow10" .u64 Lib.pow10Tab) (hD : LexW.LexD w) (hE : LexW.LexE w) (hN : line_name.f 2000000 s = some false) (n : Int) (hA : Lib.atoiAll s.data.toList = .ok n) (hC : line_counted.f 2 (⟨#[]⟩ : ByteArray) n = some false) :
  Calls Tryz.prog 30 #[.string s] w fun e w' => e = .returned (.tuple #[.agg #[.int .u8 2, .string (⟨#[]⟩ : ByteArray), .int .i64 n], .bool false]) ∧ Below w.heap.size w w' := by
 have HT := Aside0.mk hT
 have HD := Aside0.mk hD
 have HE := Aside0.mk hE
 have HN := Aside0.mk hN
 have HS := Aside0.mk hs
 clear hT hD hE hN hs
 have HA := Aside0.mk hA
 have HC := Aside0.mk hC
 clear hC
 clear hA
 go_enter Tryz.func30, Tryz.ntmps30
 go_wp2_with (first | ((with_reducible refine gate_dst (N := 2) rfl ?_); refine box_event ?hg (N := 2) ?hd (cs := #[.int .u8 0, .string (⟨#[]⟩ : ByteArray), .int .i64 0]) (t := 61) ?hr ?_; (case hd => rfl); (case hg => rfl); (case hr => exact qaw5); intro g hg w1 hbox hb; have HB1 := Aside0.mk hb; have BG1 := Aside0.mk hbox; have GG : Aside0 (w.heap.size ≤ g) := ⟨by rw [hg]; exact Nat.le_refl _⟩; clear hb hbox hg) | (go_at_call 33; have hT1 := Lib.tabBelow_of_tabIs HT.out _ HB1.out; (with_reducible refine (line_name.calls 2000000 s false _ hT1 (HD.out.below HB1.out) HN.out).mono ?_); rintro e w2 ⟨rfl, hb⟩; have HB2 := Aside0.mk (below_step HB1.out hb); have BG2 := Aside0.mk (blk_below BG1.out hb); clear hb hT1) | (go_at_call 48; (with_reducible refine (Tryz.strconv_Atoi_ok s (by have := HS.out; omega) n HA.out _).mono ?_); rintro e w3 ⟨rfl, hw⟩; have hb := below_or hw; have HB3 := Aside0.mk (below_step HB2.out hb); have BG3 := Aside0.mk (blk_below BG2.out hb); clear hb hw) | ((with_reducible refine gate_dst (N := 6) rfl ?_); refine box_event ?hg (N := 6) ?hd (cs := #[.int .u8 0, .string (⟨#[]⟩ : ByteArray), .int .i64 0]) (t := 61) ?hr ?_; (case hd => rfl); (case hg => rfl); (case hr => exact qaw5); intro q hg w4 hbox hb; have HB4 := Aside0.mk (below_step HB3.out hb); have BG4 := Aside0.mk (blk_below BG3.out hb); have BQ4 := Aside0.mk hbox; have GQ : Aside0 (w.heap.size ≤ q) := ⟨by rw [hg]; exact below_size HB3.out⟩; have NE : Aside0 (g ≠ q) := ⟨by rw [hg]; exact Nat.ne_of_lt (blk_lt BG3.out)⟩; have c0 := bc0 hbox; have cf0 := blk_frozen hbox 0; have c1 := bc1 hbox; have cf1 := blk_frozen hbox 1; have c2 := bc2 hbox; have cf2 := blk_frozen hbox 2;  clear hb hbox hg))
 have BQ5 := Aside0.mk (put3 (x := .int .u8 2) (y := .string (⟨#[]⟩ : ByteArray)) (z := .int .i64 n) BQ4.out)
 have BG5 := Aside0.mk (put3_far (x := .int .u8 2) (y := .string (⟨#[]⟩ : ByteArray)) (z := .int .i64 n) BG4.out NE.out)
 have HB5 := Aside0.mk (below_set (v := .int .i64 n) (j := 2) (below_set (v := .string (⟨#[]⟩ : ByteArray)) (j := 1) (below_set (v := .int .u8 2) (j := 0) HB4.out GQ.out) GQ.out) GQ.out)
 obtain ⟨w5, hw5⟩ : ∃ W, W = ((w4.setCell ⟨q, 0, none⟩ (.int .u8 2)).setCell ⟨q, 1, none⟩ (.string (⟨#[]⟩ : ByteArray))).setCell ⟨q, 2, none⟩ (.int .i64 n) := ⟨_, rfl⟩
 rw [← hw5] at BQ5 BG5 HB5 ⊢
 clear hw5 BQ4 BG4 HB4 c0 cf0 c1 cf1 c2 cf2
 have z0 := bc0 BQ5.out
 have z1 := bc1 BQ5.out
 have z2 := bc2 BQ5.out
 have P0B := Aside0.mk (below_drew1 HB5.out)
 have P0G := Aside0.mk (blk_drew BG5.out)
 refine start_ (n := 15) (S := fun w' => w'.cell? ⟨q, 0, none⟩ = some (.int .u8 2) ∧ w'.cell? ⟨q, 1, none⟩ = some (.string (⟨#[]⟩ : ByteArray)) ∧ w'.cell? ⟨q, 2, none⟩ = some (.int .i64 n)) (ds := [13]) #[false, false, false, false, false, false, false, false, false, false, false, false, false, false, false] (by kernel_rfl) rfl rfl ⟨z0, z1, z2⟩ (fun hHeld => ?_)
 refine pure_ (i := 1) (N := some 19) (v := ?_) (a' := ?_) #[false, true, false, false, false, false, false, false, false, false, false, false, false, false, false] rfl rfl (by kernel_rfl) (fun _ _ _ h => h) (Or.inl ⟨by rfl, ?_⟩) ?_ ?_
 rotate_left
 ·
  intro w'
  go_simp
  with_reducible rfl
 rotate_left
 ·
  simp only [Act.put, List.setIfInBounds_toArray, List.set_cons_zero, List.set_cons_succ, i64_w, i32_w]
  rfl
 refine pure_ (i := 2) (N := some 20) (v := ?_) (a' := ?_) #[false, true, true, false, false, false, false, false, false, false, false, false, false, false, false] rfl rfl (by kernel_rfl) (fun _ _ _ h => h) (Or.inl ⟨by rfl, ?_⟩) ?_ ?_
 rotate_left
 ·
  intro w'
  go_simp
  with_reducible rfl
 rotate_left
 ·
  simp only [Act.put, List.setIfInBounds_toArray, List.set_cons_zero, List.set_cons_succ, i64_w, i32_w]
  rfl
 refine pure_ (i := 3) (N := some 21) (v := ?_) (a' := ?_) #[false, true, true, true, false, false, false, false, false, false, false, false, false, false, false] rfl rfl (by kernel_rfl) (fun _ _ _ h => h) (Or.inl ⟨by rfl, ?_⟩) ?_ ?_
 rotate_left
 ·
  intro w'
  go_simp
  with_reducible rfl
 rotate_left
 ·
  simp only [Act.put, List.setIfInBounds_toArray, List.set_cons_zero, List.set_cons_succ, i64_w, i32_w]
  rfl
 refine take_ (i := 0) (N := some 18) (v := ?_) (a' := ?_) #[true, true, true, true, false, false, false, false, false, false, false, false, false, false, false] rfl rfl (by kernel_rfl) (fun _ _ _ h => h) (Or.inl ⟨by rfl, ?_⟩) hHeld ?_ ?_
 rotate_left
 ·
  rintro w' ⟨s0, s1, s2⟩
  go_simp
  with_reducible rfl
 rotate_left
 ·
  simp only [Act.put, List.setIfInBounds_toArray, List.set_cons_zero, List.set_cons_succ, i64_w, i32_w]
  rfl
 refine take_ (i := 4) (N := some 22) (v := ?_) (a' := ?_) #[true, true, true, true, true, false, false, false, false, false, false, false, false, false, false] rfl rfl (by kernel_rfl) (fun _ _ _ h => h) (Or.inl ⟨by rfl, ?_⟩) hHeld ?_ ?_
 rotate_left
 ·
  rintro w' ⟨s0, s1, s2⟩
  go_simp
  with_reducible rfl
 rotate_left
 ·
  simp only [Act.put, List.setIfInBounds_toArray, List.set_cons_zero, List.set_cons_succ, i64_w, i32_w]
  rfl
 refine one_ (i := 5) (N := some 23) #[true, true, true, true, true, true, false, false, false, false, false, false, false, false, false] rfl rfl (by kernel_rfl) (by decide) (fun K hK => ?_)
 refine goes_ Tryz.func45 (by kernel_rfl) rfl #[.agg #[.int .u8 2, .string (⟨#[]⟩ : ByteArray), .int .i64 n]] (by rfl) rfl rfl qaw4 ?_
 with_reducible refine (line_counted.calls 2 (⟨#[]⟩ : ByteArray) n false _ HC.out).mono ?_
 rintro e w6 ⟨rfl, hb⟩
 refine ⟨_, rfl, ?_⟩
 have P1B := Aside0.mk (below_step P0B.out hb)
 have P1G := Aside0.mk (blk_below P0G.out hb)
 refine hK.out _ _ ⟨((hb.cell (World.block_lt_of_cell? _ _ hHeld.1)).trans hHeld.1), ((hb.cell (World.block_lt_of_cell? _ _ hHeld.2.1)).trans hHeld.2.1), ((hb.cell (World.block_lt_of_cell? _ _ hHeld.2.2)).trans hHeld.2.2)⟩ (fun hHeld => ?_)
 clear hK K
 refine norm_ (a' := ?_) ?_ ?_
 rotate_left
 ·
  show Act.put _ (some 23) _ = _
  simp only [Act.put, List.setIfInBounds_toArray, List.set_cons_zero, List.set_cons_succ, i64_w, i32_w]
  rfl
 refine pure_ (i := 6) (N := some 24) (v := ?_) (a' := ?_) #[true, true, true, true, true, true, true, false, false, false, false, false, false, false, false] rfl rfl (by kernel_rfl) (fun _ _ _ h => h) (Or.inl ⟨by rfl, ?_⟩) ?_ ?_
 rotate_left
 ·
  intro w'
  go_simp
  with_reducible rfl
 rotate_left
 ·
  simp only [Act.put, List.setIfInBounds_toArray, List.set_cons_zero, List.set_cons_succ, i64_w, i32_w]
  rfl
 refine pure_ (i := 7) (N := some 25) (v := ?_) (a' := ?_) #[true, true, true, true, true, true, true, true, false, false, false, false, false, false, false] rfl rfl (by kernel_rfl) (fun _ _ _ h => h) (Or.inl ⟨by rfl, ?_⟩) ?_ ?_
 rotate_left
 ·
  intro w'
  go_simp
  with_reducible rfl
 rotate_left
 ·
  simp only [Act.put, List.setIfInBounds_toArray, List.set_cons_zero, List.set_cons_succ, i64_w, i32_w]
  rfl
 refine pure_ (i := 8) (N := some 26) (v := undef) (a' := ?_) #[true, true, true, true, true, true, true, true, true, false, false, false, false, false, false] rfl rfl (by kernel_rfl) (fun _ _ _ h => h) (Or.inr ⟨by rfl, rfl⟩) ?_ ?_
 rotate_left
 ·
  simp only [Act.put, List.setIfInBounds_toArray, List.set_cons_zero, List.set_cons_succ, i64_w, i32_w]
  rfl
 refine pure_ (i := 9) (N := some 27) (v := undef) (a' := ?_) #[true, true, true, true, true, true, true, true, true, true, false, false, false, false, false] rfl rfl (by kernel_rfl) (fun _ _ _ h => h) (Or.inr ⟨by rfl, rfl⟩) ?_ ?_
 rotate_left
 ·
  simp only [Act.put, List.setIfInBounds_toArray, List.set_cons_zero, List.set_cons_succ, i64_w, i32_w]
  rfl
 refine pure_ (i := 10) (N := some 28) (v := undef) (a' := ?_) #[true, true, true, true, true, true, true, true, true, true, true, false, false, false, false] rfl rfl (by kernel_rfl) (fun _ _ _ h => h) (Or.inr ⟨by rfl, rfl⟩) ?_ ?_
 rotate_left
 ·
  simp only [Act.put, List.setIfInBounds_toArray, List.set_cons_zero, List.set_cons_succ, i64_w, i32_w]
  rfl
 refine pure_ (i := 11) (N := some 29) (v := undef) (a' := ?_) #[true, true, true, true, true, true, true, true, true, true, true, true, false, false, false] rfl rfl (by kernel_rfl) (fun _ _ _ h => h) (Or.inr ⟨by rfl, rfl⟩) ?_ ?_
 rotate_left
 ·
  simp only [Act.put, List.setIfInBounds_toArray, List.set_cons_zero, List.set_cons_succ, i64_w, i32_w]
  rfl
 refine pure_ (i := 12) (N := some 30) (v := ?_) (a' := ?_) #[true, true, true, true, true, true, true, true, true, true, true, true, true, false, false] rfl rfl (by kernel_rfl) (fun _ _ _ h => h) (Or.inl ⟨by rfl, ?_⟩) ?_ ?_
 rotate_left
 ·
  intro w'
  go_simp
  with_reducible rfl
 rotate_left
 ·
  simp only [Act.put, List.setIfInBounds_toArray, List.set_cons_zero, List.set_cons_succ, i64_w, i32_w]
  rfl
 refine last_ (i := 13) (N := none) #[true, true, true, true, true, true, true, true, true, true, true, true, true, true, false] rfl rfl (by kernel_rfl) (by decide) (fun K hK => ?_)
 have v0 := (blk_cell P1G.out 0)
 have v1 := (blk_cell P1G.out 1)
 have v2 := (blk_cell P1G.out 2)
 have vf0 := blk_frozen P1G.out 0
 have vf1 := blk_frozen P1G.out 1
 have vf2 := blk_frozen P1G.out 2
 simp only [List.getElem?_toArray, List.getElem?_cons_zero, List.getElem?_cons_succ] at v0 v1 v2
 refine skip_ (w1 := ?_) (by rfl) rfl ?_ ?_
 rotate_left
 ·
  go_simp
  rfl
 refine hK.out _ _ ?_
 clear hK K
 refine pure_ (i := 14) (N := some 3) (v := ?_) (a' := ?_) #[true, true, true, true, true, true, true, true, true, true, true, true, true, true, true] rfl rfl (by kernel_rfl) (fun _ _ _ h => h) (Or.inl ⟨by rfl, ?_⟩) ?_ ?_
 rotate_left
 ·
  intro w'
  go_simp
  with_reducible rfl
 rotate_left
 ·
  simp only [Act.put, List.setIfInBounds_toArray, List.set_cons_zero, List.set_cons_succ, i64_w, i32_w]
  rfl
 refine done_ (by kernel_rfl) ?_
 go_wp2
 refine bodyPost_ret (results_ct rfl _ _ g 61 #[.int .u8 2, .string (⟨#[]⟩ : ByteArray), .int .i64 n] (0, 0) _ rfl (put3 P1G.out) Tryz.underlying61 rfl (by kernel_rfl)) rfl ?_
 exact ⟨rfl, below_set (below_set (below_set P1B.out GG.out) GG.out) GG.out⟩

set_option maxHeartbeats 4000000 in
set_option maxRecDepth 100000 in
theorem label_err (s : ByteArray) (hs : s.size ≤ 1000000) (w : World) (hT : Lib.TabIs Tryz.prog w "internal/strconv.uint64pow10" .u64 Lib.pow10Tab) (hD : LexW.LexD w) (hE : LexW.LexE w) (hN : line_name.f 2000000 s = some false) (n : Int) (hA : ∀ w, LexW.LexE w → Calls Tryz.prog 48 #[.string s] w fun e w' => ∃ N te, e = .returned (.tuple #[.int .i64 n, .iface te (.pointer (some ⟨N, 0, none⟩))]) ∧ Below w.heap.size w w') :
  Calls Tryz.prog 30 #[.string s] w fun e w' => e = .returned (.tuple #[.agg #[.int .u8 2, .string (⟨#[]⟩ : ByteArray), .int .i64 n], .bool false]) ∧ Below w.heap.size w w' := by
 have HT := Aside0.mk hT
 have HD := Aside0.mk hD
 have HE := Aside0.mk hE
 have HN := Aside0.mk hN
 have HS := Aside0.mk hs
 clear hT hD hE hN hs
 have HA := Aside0.mk hA
 clear hA
 go_enter Tryz.func30, Tryz.ntmps30
 go_wp2_with (first | ((with_reducible refine gate_dst (N := 2) rfl ?_); refine box_event ?hg (N := 2) ?hd (cs := #[.int .u8 0, .string (⟨#[]⟩ : ByteArray), .int .i64 0]) (t := 61) ?hr ?_; (case hd => rfl); (case hg => rfl); (case hr => exact qaw5); intro g hg w1 hbox hb; have HB1 := Aside0.mk hb; have BG1 := Aside0.mk hbox; have GG : Aside0 (w.heap.size ≤ g) := ⟨by rw [hg]; exact Nat.le_refl _⟩; clear hb hbox hg) | (go_at_call 33; have hT1 := Lib.tabBelow_of_tabIs HT.out _ HB1.out; (with_reducible refine (line_name.calls 2000000 s false _ hT1 (HD.out.below HB1.out) HN.out).mono ?_); rintro e w2 ⟨rfl, hb⟩; have HB2 := Aside0.mk (below_step HB1.out hb); have BG2 := Aside0.mk (blk_below BG1.out hb); clear hb hT1) | (go_at_call 48; (with_reducible refine (HA.out _ (HE.out.below HB2.out)).mono ?_); rintro e w3 ⟨N, te, rfl, hb⟩; have HB3 := Aside0.mk (below_step HB2.out hb); have BG3 := Aside0.mk (blk_below BG2.out hb); clear hb) | ((with_reducible refine gate_dst (N := 6) rfl ?_); refine box_event ?hg (N := 6) ?hd (cs := #[.int .u8 0, .string (⟨#[]⟩ : ByteArray), .int .i64 0]) (t := 61) ?hr ?_; (case hd => rfl); (case hg => rfl); (case hr => exact qaw5); intro q hg w4 hbox hb; have HB4 := Aside0.mk (below_step HB3.out hb); have BG4 := Aside0.mk (blk_below BG3.out hb); have BQ4 := Aside0.mk hbox; have GQ : Aside0 (w.heap.size ≤ q) := ⟨by rw [hg]; exact below_size HB3.out⟩; have NE : Aside0 (g ≠ q) := ⟨by rw [hg]; exact Nat.ne_of_lt (blk_lt BG3.out)⟩; have c0 := bc0 hbox; have cf0 := blk_frozen hbox 0; have c1 := bc1 hbox; have cf1 := blk_frozen hbox 1; have c2 := bc2 hbox; have cf2 := blk_frozen hbox 2;  clear hb hbox hg))
 have BQ5 := Aside0.mk (put3 (x := .int .u8 2) (y := .string (⟨#[]⟩ : ByteArray)) (z := .int .i64 n) BQ4.out)
 have BG5 := Aside0.mk (put3_far (x := .int .u8 2) (y := .string (⟨#[]⟩ : ByteArray)) (z := .int .i64 n) BG4.out NE.out)
 have HB5 := Aside0.mk (below_set (v := .int .i64 n) (j := 2) (below_set (v := .string (⟨#[]⟩ : ByteArray)) (j := 1) (below_set (v := .int .u8 2) (j := 0) HB4.out GQ.out) GQ.out) GQ.out)
 obtain ⟨w5, hw5⟩ : ∃ W, W = ((w4.setCell ⟨q, 0, none⟩ (.int .u8 2)).setCell ⟨q, 1, none⟩ (.string (⟨#[]⟩ : ByteArray))).setCell ⟨q, 2, none⟩ (.int .i64 n) := ⟨_, rfl⟩
 rw [← hw5] at BQ5 BG5 HB5 ⊢
 clear hw5 BQ4 BG4 HB4 c0 cf0 c1 cf1 c2 cf2
 have z0 := bc0 BQ5.out
 have z1 := bc1 BQ5.out
 have z2 := bc2 BQ5.out
 have P0B := Aside0.mk (below_drew1 HB5.out)
 have P0G := Aside0.mk (blk_drew BG5.out)
 refine start_ (n := 15) (S := fun w' => w'.cell? ⟨q, 0, none⟩ = some (.int .u8 2) ∧ w'.cell? ⟨q, 1, none⟩ = some (.string (⟨#[]⟩ : ByteArray)) ∧ w'.cell? ⟨q, 2, none⟩ = some (.int .i64 n)) (ds := [13]) #[false, false, false, false, false, false, false, false, false, false, false, false, false, false, false] (by kernel_rfl) rfl rfl ⟨z0, z1, z2⟩ (fun hHeld => ?_)
 refine pure_ (i := 1) (N := some 19) (v := ?_) (a' := ?_) #[false, true, false, false, false, false, false, false, false, false, false, false, false, false, false] rfl rfl (by kernel_rfl) (fun _ _ _ h => h) (Or.inl ⟨by rfl, ?_⟩) ?_ ?_
 rotate_left
 ·
  intro w'
  go_simp
  with_reducible rfl
 rotate_left
 ·
  simp only [Act.put, List.setIfInBounds_toArray, List.set_cons_zero, List.set_cons_succ, i64_w, i32_w]
  rfl
 refine pure_ (i := 2) (N := some 20) (v := ?_) (a' := ?_) #[false, true, true, false, false, false, false, false, false, false, false, false, false, false, false] rfl rfl (by kernel_rfl) (fun _ _ _ h => h) (Or.inl ⟨by rfl, ?_⟩) ?_ ?_
 rotate_left
 ·
  intro w'
  go_simp
  with_reducible rfl
 rotate_left
 ·
  simp only [Act.put, List.setIfInBounds_toArray, List.set_cons_zero, List.set_cons_succ, i64_w, i32_w]
  rfl
 refine pure_ (i := 3) (N := some 21) (v := ?_) (a' := ?_) #[false, true, true, true, false, false, false, false, false, false, false, false, false, false, false] rfl rfl (by kernel_rfl) (fun _ _ _ h => h) (Or.inl ⟨by rfl, ?_⟩) ?_ ?_
 rotate_left
 ·
  intro w'
  go_simp
  with_reducible rfl
 rotate_left
 ·
  simp only [Act.put, List.setIfInBounds_toArray, List.set_cons_zero, List.set_cons_succ, i64_w, i32_w]
  rfl
 refine pure_ (i := 4) (N := some 22) (v := undef) (a' := ?_) #[false, true, true, true, true, false, false, false, false, false, false, false, false, false, false] rfl rfl (by kernel_rfl) (fun _ _ _ h => h) (Or.inr ⟨by rfl, rfl⟩) ?_ ?_
 rotate_left
 ·
  simp only [Act.put, List.setIfInBounds_toArray, List.set_cons_zero, List.set_cons_succ, i64_w, i32_w]
  rfl
 refine pure_ (i := 5) (N := some 23) (v := undef) (a' := ?_) #[false, true, true, true, true, true, false, false, false, false, false, false, false, false, false] rfl rfl (by kernel_rfl) (fun _ _ _ h => h) (Or.inr ⟨by rfl, rfl⟩) ?_ ?_
 rotate_left
 ·
  simp only [Act.put, List.setIfInBounds_toArray, List.set_cons_zero, List.set_cons_succ, i64_w, i32_w]
  rfl
 refine pure_ (i := 6) (N := some 24) (v := ?_) (a' := ?_) #[false, true, true, true, true, true, true, false, false, false, false, false, false, false, false] rfl rfl (by kernel_rfl) (fun _ _ _ h => h) (Or.inl ⟨by rfl, ?_⟩) ?_ ?_
 rotate_left
 ·
  intro w'
  go_simp
  with_reducible rfl
 rotate_left
 ·
  simp only [Act.put, List.setIfInBounds_toArray, List.set_cons_zero, List.set_cons_succ, i64_w, i32_w]
  rfl
 refine pure_ (i := 7) (N := some 25) (v := ?_) (a' := ?_) #[false, true, true, true, true, true, true, true, false, false, false, false, false, false, false] rfl rfl (by kernel_rfl) (fun _ _ _ h => h) (Or.inl ⟨by rfl, ?_⟩) ?_ ?_
 rotate_left
 ·
  intro w'
  go_simp
  with_reducible rfl
 rotate_left
 ·
  simp only [Act.put, List.setIfInBounds_toArray, List.set_cons_zero, List.set_cons_succ, i64_w, i32_w]
  rfl
 refine pure_ (i := 8) (N := some 26) (v := undef) (a' := ?_) #[false, true, true, true, true, true, true, true, true, false, false, false, false, false, false] rfl rfl (by kernel_rfl) (fun _ _ _ h => h) (Or.inr ⟨by rfl, rfl⟩) ?_ ?_
 rotate_left
 ·
  simp only [Act.put, List.setIfInBounds_toArray, List.set_cons_zero, List.set_cons_succ, i64_w, i32_w]
  rfl
 refine pure_ (i := 9) (N := some 27) (v := undef) (a' := ?_) #[false, true, true, true, true, true, true, true, true, true, false, false, false, false, false] rfl rfl (by kernel_rfl) (fun _ _ _ h => h) (Or.inr ⟨by rfl, rfl⟩) ?_ ?_
 rotate_left
 ·
  simp only [Act.put, List.setIfInBounds_toArray, List.set_cons_zero, List.set_cons_succ, i64_w, i32_w]
  rfl
 refine pure_ (i := 10) (N := some 28) (v := undef) (a' := ?_) #[false, true, true, true, true, true, true, true, true, true, true, false, false, false, false] rfl rfl (by kernel_rfl) (fun _ _ _ h => h) (Or.inr ⟨by rfl, rfl⟩) ?_ ?_
 rotate_left
 ·
  simp only [Act.put, List.setIfInBounds_toArray, List.set_cons_zero, List.set_cons_succ, i64_w, i32_w]
  rfl
 refine pure_ (i := 11) (N := some 29) (v := undef) (a' := ?_) #[false, true, true, true, true, true, true, true, true, true, true, true, false, false, false] rfl rfl (by kernel_rfl) (fun _ _ _ h => h) (Or.inr ⟨by rfl, rfl⟩) ?_ ?_
 rotate_left
 ·
  simp only [Act.put, List.setIfInBounds_toArray, List.set_cons_zero, List.set_cons_succ, i64_w, i32_w]
  rfl
 refine pure_ (i := 12) (N := some 30) (v := ?_) (a' := ?_) #[false, true, true, true, true, true, true, true, true, true, true, true, true, false, false] rfl rfl (by kernel_rfl) (fun _ _ _ h => h) (Or.inl ⟨by rfl, ?_⟩) ?_ ?_
 rotate_left
 ·
  intro w'
  go_simp
  with_reducible rfl
 rotate_left
 ·
  simp only [Act.put, List.setIfInBounds_toArray, List.set_cons_zero, List.set_cons_succ, i64_w, i32_w]
  rfl
 refine take_ (i := 0) (N := some 18) (v := ?_) (a' := ?_) #[true, true, true, true, true, true, true, true, true, true, true, true, true, false, false] rfl rfl (by kernel_rfl) (fun _ _ _ h => h) (Or.inl ⟨by rfl, ?_⟩) hHeld ?_ ?_
 rotate_left
 ·
  rintro w' ⟨s0, s1, s2⟩
  go_simp
  with_reducible rfl
 rotate_left
 ·
  simp only [Act.put, List.setIfInBounds_toArray, List.set_cons_zero, List.set_cons_succ, i64_w, i32_w]
  rfl
 refine last_ (i := 13) (N := none) #[true, true, true, true, true, true, true, true, true, true, true, true, true, true, false] rfl rfl (by kernel_rfl) (by decide) (fun K hK => ?_)
 have v0 := (blk_cell BG5.out 0)
 have v1 := (blk_cell BG5.out 1)
 have v2 := (blk_cell BG5.out 2)
 have vf0 := blk_frozen BG5.out 0
 have vf1 := blk_frozen BG5.out 1
 have vf2 := blk_frozen BG5.out 2
 simp only [List.getElem?_toArray, List.getElem?_cons_zero, List.getElem?_cons_succ] at v0 v1 v2
 refine skip_ (w1 := ?_) (by rfl) rfl ?_ ?_
 rotate_left
 ·
  go_simp
  rfl
 refine hK.out _ _ ?_
 clear hK K
 refine pure_ (i := 14) (N := some 3) (v := ?_) (a' := ?_) #[true, true, true, true, true, true, true, true, true, true, true, true, true, true, true] rfl rfl (by kernel_rfl) (fun _ _ _ h => h) (Or.inl ⟨by rfl, ?_⟩) ?_ ?_
 rotate_left
 ·
  intro w'
  go_simp
  with_reducible rfl
 rotate_left
 ·
  simp only [Act.put, List.setIfInBounds_toArray, List.set_cons_zero, List.set_cons_succ, i64_w, i32_w]
  rfl
 refine done_ (by kernel_rfl) ?_
 go_wp2
 refine bodyPost_ret (results_ct rfl _ _ g 61 #[.int .u8 2, .string (⟨#[]⟩ : ByteArray), .int .i64 n] (0, 0) _ rfl (put3 P0G.out) Tryz.underlying61 rfl (by kernel_rfl)) rfl ?_
 exact ⟨rfl, below_set (below_set (below_set P0B.out GG.out) GG.out) GG.out⟩
theorem many_len {p : UInt8 → Bool} : ∀ l : List UInt8, l.all p = true → Lex.many p l = l.length
 | [], _ => rfl
 | c :: t, h => by
  simp only [List.all_cons, Bool.and_eq_true] at h
  rw [Lex.many, if_pos h.1, many_len t h.2, List.length_cons]
theorem ex_all (s : ByteArray) : (s.extract 0 s.size).data.toList = s.data.toList := by
 rw [ByteArray.data_extract]
 simp
 exact List.take_of_length_le (by rw [Array.length_toList]; exact Nat.le_refl _)
theorem count_parts {s : List UInt8} (h : Li.countL s = true) : s ≠ [] ∧ s.all Lex.digitC = true ∧ s.length ≤ 9 ∧ Lex.decL (Lex.decNat s) = s := by
 unfold Li.countL at h
 simp only [Bool.and_eq_true, Bool.not_eq_true', List.isEmpty_eq_false_iff, decide_eq_true_eq] at h
 exact ⟨h.1.1.1, h.1.1.2, h.1.2, h.2⟩
theorem count_ok (s : ByteArray) (h : Li.countL s.data.toList = true) : Lib.atoiAll s.data.toList = .ok ((Lex.decNat s.data.toList : Nat) : Int) ∧ Lex.decNat s.data.toList < 1000000000 := by
 obtain ⟨h1, h2, h3, h4⟩ := count_parts h
 have hm := many_len _ h2
 have hsz : s.data.toList.length = s.size := by rw [Array.length_toList]; rfl
 have hpos : 0 < s.data.toList.length := List.length_pos_iff.2 h1
 have ha := LexW.atoi_take s s.size (Nat.le_refl _) (by rw [hm, hsz]) (by omega)
 rw [ex_all, List.take_of_length_le (by omega)] at ha
 refine ⟨?_, ?_⟩
 ·
  rw [Lib.atoiAll_short _ (by omega), ha]
  rfl
 ·
  have hd := Lex.decNat_lt s.data.toList (fun c hc => List.all_eq_true.1 h2 c hc)
  have hp : (10 : Nat) ^ s.data.toList.length ≤ 10 ^ 9 := Nat.pow_le_pow_right (by omega) h3
  have : (10 : Nat) ^ 9 = 1000000000 := by decide
  omega
theorem count_back {s : List UInt8} {m : Nat} (hm : m < 1000000000) (h : Lex.decL m = s) : Li.countL s = true := by
 subst h
 have h1 := Lex.dec_ne m
 have h2 : (Lex.decL m).all Lex.digitC = true := List.all_eq_true.2 (Lex.dec_all m)
 have h3 := Lex.dec_len 9 m (by omega) (by omega)
 unfold Li.countL
 rw [h2, decide_eq_true h3, Lex.dec_val, decide_eq_true rfl]
 cases hh : Lex.decL m with
 | nil => exact absurd hh h1
 | cons => rfl
theorem head_start : ∀ c : UInt8, Lex.startC c = true → Lex.digitC c = false := by
 intro c h
 have := Lex.bytes (p := fun c => !Lex.startC c || !Lex.digitC c) (by decide +kernel) c
 simp [h] at this
 exact this
theorem plain_c : ∀ c : UInt8, (if ((c.toNat : Int)) = 37 then (some false) else (if (c.toNat : Int) < 48 then (some true) else (some (decide ((c.toNat : Int) > 57))))) = some (!(c == 37) && !Lex.digitC c) := by
 intro c
 have := Lex.bytes (p := fun c => (if ((c.toNat : Int)) = 37 then (some false) else (if (c.toNat : Int) < 48 then (some true) else (some (decide ((c.toNat : Int) > 57))))) == some (!(c == 37) && !Lex.digitC c)) (by decide +kernel) c
 simpa using this
theorem name_f (s : ByteArray) (hs : s.size ≤ 1000000) : line_name.f 2000000 s = some (Li.plainL s.data.toList) := by
 unfold line_name.f line_word.f lex_Check.f
 simp only [Option.bind_some]
 have ht := ZT.text_f ⟨1, s, 0⟩ (by show (0 : Int) ≤ 1; decide) (by show s.size ≤ 100000000000; omega) (by show -9223372036854775808 ≤ (0 : Int) ∧ (0 : Int) < 9223372036854775808; omega) 2000000 (by simp only; omega)
 simp only at ht
 rw [ht]
 simp only [Option.bind_some]
 have hm : (Lex.textL (ZT.toTok ⟨1, s, 0⟩)).2 = (Lex.nameL s.data.toList || Lex.localL s.data.toList) := by
  simp [Lex.textL, ZT.toTok]
 rw [hm]
 unfold Li.plainL
 cases hl : s.data.toList with
 | nil => rfl
 | cons c r =>
  have hne : 0 < s.size := by rw [← ZT.size_data, hl]; simp
  have hc : s[0] = c := by
   have : s.data.toList[0]? = some c := by rw [hl]; rfl
   rw [List.getElem?_eq_getElem (by rw [hl]; simp)] at this
   have := Option.some.inj this
   rw [← this]
   rfl
  have hb : bt s 0 = (c.toNat : Int) := (ZT.bt_lt s 0 hne).trans (by rw [hc])
  have hp : line_plain.f 1 s 0 = some (!(c == 37) && !Lex.digitC c) := by
   unfold line_plain.f
   rw [if_pos rfl, if_pos (by omega), hb]
   exact plain_c c
  rw [hp]
  simp only [Option.bind_some]
  have hg : (c :: r).getD 0 0 = c := rfl
  rw [hg]
  cases hn : Lex.nameL (c :: r) with
  | true =>
   have hst : Lex.startC c = true := by
    unfold Lex.nameL at hn
    simp only [Bool.and_eq_true] at hn
    exact hn.1.2
   rw [head_start c hst]
   simp
  | false =>
   cases ho : Lex.localL (c :: r) with
   | false => simp
   | true =>
    have hd : Lex.digitC c = true := by
     unfold Lex.localL at ho
     simp only [Bool.and_eq_true, decide_eq_true_eq] at ho
     have h1 := ho.1.1.1
     rw [Lex.many] at h1
     by_cases hh : Lex.digitC c = true
     ·
      exact hh
     ·
      rw [if_neg hh] at h1
      omega
    rw [hd]
    simp
def labelV (s : ByteArray) : Int × ByteArray × Int × Bool := if Li.plainL s.data.toList then (1, s, 0, true) else (2, ⟨#[]⟩, atoiV s, Li.countL s.data.toList)
theorem label_walk (s : ByteArray) (hs : s.size ≤ 1000000) (w : World) (hT : Lib.TabIs Tryz.prog w "internal/strconv.uint64pow10" .u64 Lib.pow10Tab) (hD : LexW.LexD w) (hE : LexW.LexE w) :
  Calls Tryz.prog 30 #[.string s] w fun e w' => e = .returned (.tuple #[.agg #[.int .u8 (labelV s).1, .string (labelV s).2.1, .int .i64 (labelV s).2.2.1], .bool (labelV s).2.2.2]) ∧ Below w.heap.size w w' := by
 have hn := name_f s hs
 unfold labelV
 cases hp : Li.plainL s.data.toList with
 | true =>
  rw [hp] at hn
  exact label_word s hs w hT hD hE hn
 | false =>
  rw [hp] at hn
  unfold atoiV
  cases ha : Lib.atoiAll s.data.toList with
  | ok n =>
   obtain ⟨b0, b1⟩ := Lib.atoiAll_bounds ha
   by_cases hc : 0 ≤ n ∧ n < 1000000000
   ·
    obtain ⟨m, rfl⟩ := Int.eq_ofNat_of_zero_le hc.1
    have hcf : line_counted.f 2 (⟨#[]⟩ : ByteArray) (m : Int) = some true := by
     unfold line_counted.f
     rw [if_pos rfl, if_pos (by omega), decide_eq_true (by omega)]
    have hI : strconv_Itoa.f (m : Int) = some ⟨(Lex.decL m).toArray⟩ := by unfold strconv_Itoa.f; rw [if_pos (by omega), itoa_dec]
    have hq : ((⟨(Lex.decL m).toArray⟩ : ByteArray).toList == s.toList) = Li.countL s.data.toList := by
     rw [ByteArray.toList_eq, ByteArray.toList_eq]
     show (Lex.decL m == s.data.toList) = _
     cases hcl : Li.countL s.data.toList with
     | true =>
      obtain ⟨h1, h2⟩ := count_ok s hcl
      rw [ha] at h1
      have he : (m : Int) = ((Lex.decNat s.data.toList : Nat) : Int) := by injection h1
      have he' : m = Lex.decNat s.data.toList := by omega
      rw [he', (count_parts hcl).2.2.2]
      simp
     | false =>
      rw [beq_eq_false_iff_ne]
      intro e
      rw [count_back (by omega) e] at hcl
      cases hcl
    cases hcl : Li.countL s.data.toList with
    | true => exact label_yes s hs w hT hD hE hn (m : Int) _ ha hcf hI (hq.trans hcl)
    | false => exact label_no s hs w hT hD hE hn (m : Int) _ ha hcf hI (hq.trans hcl)
   ·
    have hcf : line_counted.f 2 (⟨#[]⟩ : ByteArray) n = some false := by
     unfold line_counted.f
     rw [if_pos rfl]
     by_cases h0 : n ≥ 0
     ·
      rw [if_pos h0, decide_eq_false (by omega)]
     ·
      rw [if_neg h0]
    have hcl : Li.countL s.data.toList = false := by
     cases h : Li.countL s.data.toList with
     | false => rfl
     | true =>
      obtain ⟨h1, h2⟩ := count_ok s h
      rw [ha] at h1
      injection h1 with h1
      omega
    rw [hcl]
    exact label_great s hs w hT hD hE hn n ha hcf
  | «syntax» =>
   have hcl : Li.countL s.data.toList = false := by
    cases h : Li.countL s.data.toList with
    | false => rfl
    | true => rw [(count_ok s h).1] at ha; cases ha
   rw [hcl]
   refine label_err s hs w hT hD hE hn 0 ?_
   intro w1 hE1
   obtain ⟨⟨ev, h1, h2⟩, _⟩ := hE1
   exact (Tryz.strconv_Atoi_syntax s (by omega) ha ev w1 h1 h2).mono fun e w' ⟨N, he, _, _, hb⟩ => ⟨N, _, he, hb⟩
  | range =>
   have hcl : Li.countL s.data.toList = false := by
    cases h : Li.countL s.data.toList with
    | false => rfl
    | true => rw [(count_ok s h).1] at ha; cases ha
   rw [hcl]
   refine label_err s hs w hT hD hE hn (Lib.atoiSat s.data.toList) ?_
   intro w1 hE1
   obtain ⟨_, ⟨ev, h1, h2⟩⟩ := hE1
   exact (Tryz.strconv_Atoi_range s (by omega) ha ev w1 h1 h2).mono fun e w' ⟨N, he, _, _, hb⟩ => ⟨N, _, he, hb⟩
end LL
def line_label.f (a0 : ByteArray) : Option (Int × ByteArray × Int × Bool) := if a0.size ≤ 1000000 then some (LL.labelV a0) else none
theorem line_label.calls (a0 : ByteArray) (r1 : Int) (r2 : ByteArray) (r3 : Int) (r4 : Bool) (w : World) (hT : Lib.TabIs Tryz.prog w "internal/strconv.uint64pow10" .u64 Lib.pow10Tab) (hD : LexW.LexD w) (hE : LexW.LexE w) (h : line_label.f a0 = some (r1, r2, r3, r4)) :
  Calls Tryz.prog 30 #[.string a0] w fun e w' => e = .returned (.tuple #[.agg #[.int .u8 r1, .string r2, .int .i64 r3], .bool r4]) ∧ Below w.heap.size w w' := by
 unfold line_label.f at h
 by_cases c : a0.size ≤ 1000000
 ·
  rw [if_pos c] at h
  have := LL.label_walk a0 c w hT hD hE
  rw [Option.some.inj h] at this
  exact this
 ·
  rw [if_neg c] at h
  cases h
end

def line_mark.f (a0 : ByteArray) : Option (Int × ByteArray × Int) := some (4, a0, 0)
set_option maxHeartbeats 8000000 in
set_option maxRecDepth 100000 in
theorem line_mark.calls (a0 : ByteArray) (r1 : Int) (r2 : ByteArray) (r3 : Int) (w : World) (h : line_mark.f a0 = some (r1, r2, r3)) :
  Calls Tryz.prog 31 #[.string a0] w fun e w' => e = .returned (.agg #[.int .u8 r1, .string r2, .int .i64 r3]) ∧ Below w.heap.size w w' := by
 have hu61 := Tryz.underlying61
 have HB := Aside0.mk (Below.refl w.heap.size w)
 have H : (some (4, a0, 0)) = some (r1, r2, r3) := h
 clear h
 simp only [Option.some.injEq, Prod.mk.injEq] at H
 obtain ⟨rfl, rfl, rfl⟩ := H
 go_enter Tryz.func31, Tryz.ntmps31
 go_wp2_with (first | ((with_reducible refine gate_dst (N := 2) rfl ?_); refine box_event ?hg (N := 2) ?hd (cs := #[.int .u8 0, .string (⟨#[]⟩ : ByteArray), .int .i64 0]) (t := 61) ?hr ?_; (case hd => rfl); (case hg => rfl); (case hr => exact qaw5); intro gb161 hg w2 hbox hb; have n0_ := Aside0.mk (below_step qaw3 hb); have n1_ := Aside0.mk (hbox); have n2_ := Aside0.mk ((by rw [hg]; exact (below_size qaw3) : w.heap.size ≤ gb161)); have n3_ := Aside0.mk ((by rw [hg]; exact (below_size qaw3) : w.heap.size ≤ gb161)); clear HB; have HB := n0_; have BK161 := n1_; have GW161 := n2_; have GE161 := n3_; clear n0_ n1_ n2_ n3_; clear hb hbox hg; have hcz3_0 := bc0 BK161.out; have hcz3_1 := bc1 BK161.out; have hcz3_2 := bc2 BK161.out; have hfz3_0 := blk_frozen BK161.out 0; have hfz3_1 := blk_frozen BK161.out 1; have hfz3_2 := blk_frozen BK161.out 2))
 refine bodyPost_ret (results_cell_row rfl _ _ gb161 61 #[.int .u8 4, .string a0, .int .i64 0] (0, 0) _ rfl (by (with_reducible repeat (first | refine blk_drewN ?_ _ | refine blk_drew ?_ | refine blk_alloc ?_ _)); refine blk_put (cs := #[.int .u8 4, .string a0, .int .i64 0]) ?_ 2 _ rfl; (with_reducible repeat (first | refine blk_drewN ?_ _ | refine blk_drew ?_ | refine blk_alloc ?_ _)); refine blk_put (cs := #[.int .u8 4, .string (⟨#[]⟩ : ByteArray), .int .i64 0]) ?_ 1 _ rfl; (with_reducible repeat (first | refine blk_drewN ?_ _ | refine blk_drew ?_ | refine blk_alloc ?_ _)); refine blk_put (cs := #[.int .u8 0, .string (⟨#[]⟩ : ByteArray), .int .i64 0]) ?_ 0 _ rfl; (with_reducible repeat (first | refine blk_drewN ?_ _ | refine blk_drew ?_ | refine blk_alloc ?_ _)); exact BK161.out) Tryz.underlying61 rfl (by kernel_rfl)) rfl ?_
 exact ⟨by first | rfl | (simp [errW_none, errW_some] <;> rfl) | (simp [*, errW_none, errW_some] <;> rfl), by repeat (first | (with_reducible first | exact HB.out | apply below_alloc | apply pw_below_drewN | apply below_drew1 | refine below_set ?_ GE161.out) | exact HB.out)⟩


section
open Go.Proofs.YtbfndlfemhidaaaGreatDoor.Lex
namespace LC
set_option maxHeartbeats 4000000 in
set_option maxRecDepth 100000 in
theorem called_walk (n : Int) (hn : -9223372036854775808 ≤ n ∧ n < 9223372036854775808) (w : World) (hR : LiW.RegsAt w) :
  Calls Tryz.prog 50 #[.int .i64 n] w fun e w' => e = .returned (.tuple #[.string ⟨(Li.calledL n).1.toArray⟩, .int .i64 ((Li.calledL n).2 : Int)]) ∧ Below w.heap.size w w' := by
 have HR := Aside0.mk hR
 clear hR
 unfold Li.calledL
 by_cases c0 : n < 0
 ·
  rw [if_pos (.inl c0)]
  have d0 : decide (n < 0) = true := decide_eq_true c0
  clear c0 hn
  go_enter Tryz.func50, Tryz.ntmps50
  go_wp2
  go_ret2
  exact ⟨rfl, Below.refl _ _⟩
 ·
  by_cases c1 : 32 ≤ n
  ·
   rw [if_pos (.inr c1)]
   have d0 : decide (n < 0) = false := decide_eq_false c0
   have d1 : decide (32 ≤ n) = true := decide_eq_true c1
   clear c0 c1 hn
   go_enter Tryz.func50, Tryz.ntmps50
   go_wp2
   go_ret2
   exact ⟨rfl, Below.refl _ _⟩
  ·
   rw [if_neg (by omega)]
   obtain ⟨j, rfl⟩ := Int.eq_ofNat_of_zero_le (show 0 ≤ n by omega)
   have d0 : decide ((j : Int) < 0) = false := decide_eq_false (by omega)
   have d1 : decide (32 ≤ (j : Int)) = false := decide_eq_false (by omega)
   have p1 : (j : Int) < 32 := by omega
   have hc := HR.out j (by omega)
   rw [Int.toNat_natCast]
   clear c0 c1 hn
   go_enter Tryz.func50, Tryz.ntmps50
   go_wp2
   go_ret2
   exact ⟨rfl, Below.refl _ _⟩
end LC
def line_Called.f (a0 : Int) : Option (ByteArray × Int) := if -9223372036854775808 ≤ a0 ∧ a0 < 9223372036854775808 then some (⟨(Li.calledL a0).1.toArray⟩, ((Li.calledL a0).2 : Int)) else none
theorem line_Called.calls (a0 : Int) (r1 : ByteArray) (r2 : Int) (w : World) (hG : LiW.RegsAt w) (h : line_Called.f a0 = some (r1, r2)) :
  Calls Tryz.prog 50 #[.int .i64 a0] w fun e w' => e = .returned (.tuple #[.string r1, .int .i64 r2]) ∧ Below w.heap.size w w' := by
 unfold line_Called.f at h
 by_cases c : -9223372036854775808 ≤ a0 ∧ a0 < 9223372036854775808
 ·
  rw [if_pos c] at h
  simp only [Option.some.injEq, Prod.mk.injEq] at h
  obtain ⟨rfl, rfl⟩ := h
  exact LC.called_walk a0 c w hG
 ·
  rw [if_neg c] at h
  cases h
end

def expr_word.f (k : Nat) (a0 : ByteArray) : Option (Bool) := (lex_Check.f k 1 a0 0).bind fun t162 => (if t162 = 0 then (if 0 < (a0.size : Int) then (some ((bt a0 0) != 37)) else (none)) else (some false))
set_option maxHeartbeats 8000000 in
set_option maxRecDepth 100000 in
theorem expr_word.calls (k : Nat) (a0 : ByteArray) (r : Bool) (w : World) (hT : Lib.TabIs Tryz.prog w "internal/strconv.uint64pow10" .u64 Lib.pow10Tab) (hD : LexW.LexD w) (h : expr_word.f k a0 = some r) :
  Calls Tryz.prog 119 #[.string a0] w fun e w' => e = .returned (.bool r) ∧ Below w.heap.size w w' := by
 have hu61 := Tryz.underlying61
 have HT := Aside0.mk hT
 clear hT
 have HD_ := Aside0.mk hD
 clear hD
 have HB := Aside0.mk (Below.refl w.heap.size w)
 have H : ((lex_Check.f k 1 a0 0).bind fun t162 => (if t162 = 0 then (if 0 < (a0.size : Int) then (some ((bt a0 0) != 37)) else (none)) else (some false))) = some r := h
 clear h
 replace H := Option.bind_eq_some_iff.mp H
 obtain ⟨t162, A20, H⟩ := H
 replace H : (if t162 = 0 then (if 0 < (a0.size : Int) then (some ((bt a0 0) != 37)) else (none)) else (some false)) = some r := H
 have A2 := Aside0.mk A20
 clear A20
 by_cases c3 : t162 = 0
 ·
  rw [if_pos c3] at H
  have c3b0 : (t162 == 0) = true := beq_iff_eq.mpr c3
  have c3b1 : (t162 != 0) = false := bne_eq_false_iff_eq.mpr c3
  clear c3
  by_cases c4 : 0 < (a0.size : Int)
  ·
   rw [if_pos c4] at H
   have c4b0 : decide (0 < (a0.size : Int)) = true := decide_eq_true c4
   have c4b1 : decide (0 < a0.size) = true := decide_eq_true (by omega)
   clear c4
   obtain rfl := Option.some.inj H
   go_enter Tryz.func119, Tryz.ntmps119
   go_wp2_with (first | ((with_reducible refine gate_callee (f := 49) rfl ?_); refine goesL_ (some 5) rfl rfl Tryz.func49 (by kernel_rfl) rfl #[.agg #[.int .u8 1, .string a0, .int .i64 0]] rfl qaw2 ?_; (with_reducible refine (lex_Check.calls k 1 a0 0 t162 _ ?side1 ?side2 A2.out).mono ?_); (case side1 => exact qaw0); (case side2 => exact qaw1); rintro e w6 ⟨rfl, hb⟩; refine ⟨_, rfl, ?_⟩; have n0_ := Aside0.mk (below_step qaw3 hb); clear HB; have HB := n0_; clear n0_; (try clear hb); (try clear hb2); (try clear hk); (try clear hi); have p5 : 0 ≤ (0 : Int) := (by omega); have q5 : 0 < a0.size := (by have : (0 : Int) < (a0.size : Int) := of_decide_eq_true (by first | (with_reducible assumption) | assumption); omega); have hx5 : ∀ h : 0 < a0.size, ((a0[0]'h).toNat : Int) = bt a0 0 := bt_at a0 0; clear p5; have qi5 : (0 < (a0.size : Int)) = True := eq_true (of_decide_eq_true (by first | (with_reducible assumption) | assumption)); replace q5 := eq_true q5))
   go_ret
   exact ⟨by first | rfl | (simp [errW_none, errW_some] <;> rfl) | (simp [*, errW_none, errW_some] <;> rfl), by repeat (first | (with_reducible first | exact HB.out | apply below_alloc | apply pw_below_drewN | apply below_drew1) | exact HB.out)⟩
  ·
   rw [if_neg c4] at H
   exact absurd H (by simp)
 ·
  rw [if_neg c3] at H
  have c3b0 : (t162 == 0) = false := beq_eq_false_iff_ne.mpr c3
  have c3b1 : (t162 != 0) = true := bne_iff_ne.mpr c3
  obtain rfl := Option.some.inj H
  go_enter Tryz.func119, Tryz.ntmps119
  go_wp2_with (first | ((with_reducible refine gate_callee (f := 49) rfl ?_); refine goesL_ (some 5) rfl rfl Tryz.func49 (by kernel_rfl) rfl #[.agg #[.int .u8 1, .string a0, .int .i64 0]] rfl qaw2 ?_; (with_reducible refine (lex_Check.calls k 1 a0 0 t162 _ ?side1 ?side2 A2.out).mono ?_); (case side1 => exact qaw0); (case side2 => exact qaw1); rintro e w7 ⟨rfl, hb⟩; refine ⟨_, rfl, ?_⟩; have n0_ := Aside0.mk (below_step qaw3 hb); clear HB; have HB := n0_; clear n0_; (try clear hb); (try clear hb2); (try clear hk); (try clear hi)))
  go_ret
  exact ⟨by first | rfl | (simp [errW_none, errW_some] <;> rfl) | (simp [*, errW_none, errW_some] <;> rfl), by repeat (first | (with_reducible first | exact HB.out | apply below_alloc | apply pw_below_drewN | apply below_drew1) | exact HB.out)⟩

end Go.Proofs.YtbfndlfemhidaaaGreatDoor.P
