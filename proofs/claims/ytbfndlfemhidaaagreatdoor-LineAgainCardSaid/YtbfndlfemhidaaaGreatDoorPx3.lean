/- Texts of this seat in one (Px3), what nothing speaks of left out: by pack.py, a program of this session. -/
import Derived.Test.YtbfndlfemhidaaaGreatDoorPx0
namespace Go.Proofs.YtbfndlfemhidaaaGreatDoor.P
open Go.RowKit Go.Proofs.YtbfndlfemhidaaaGreatDoor.LexP Go.Proofs.YtbfndlfemhidaaaGreatDoorW.PrintWords Go.Proofs.YtbfndlfemhidaaaGreatDoorW.PrintLast Go.Proofs.YtbfndlfemhidaaaGreatDoorW.PrintMore
theorem qav9 {P : Prop} (h : P := by first | (go_simp; done) | (go_simp; rfl)) : P := h
theorem qav8 {P : Prop} (h : P := by first | (with_reducible assumption) | assumption) : P := h
theorem qav7 {P : Prop} (h : P := by (with_reducible repeat (first | refine blk_drewN ?_ _ | refine blk_drew ?_ | refine blk_alloc ?_ _)); exact BK134.out) : P := h
theorem qav6 {P : Prop} (h : P := by repeat (first | (with_reducible first | exact HB.out | apply below_alloc | apply pw_below_drewN | apply below_drew1) | exact HB.out)) : P := h
theorem qav5 {P : Prop} (h : P := by (try simp only [List.map_toArray, List.map_cons, List.map_nil]); first | done | rfl | (simp only [List.length_drop, List.length_take]; rfl)) : P := h
theorem qav4 {P : Prop} (h : P := by exact HD_.out.below qav6) : P := h
theorem qav3 {P : Prop} (h : P := by repeat (first | (with_reducible first | exact HB.out | apply below_alloc | apply pw_below_drewN | apply below_drew1 | refine below_set ?_ GE134.out) | exact HB.out)) : P := h
theorem qav2 {P : Prop} (h : P := by exact Lib.tabBelow_of_tabIs HT.out _ qav6) : P := h
theorem qav1 {P : Prop} (h : P := by exact HD_.out.below qav3) : P := h
theorem qav0 {P : Prop} (h : P := by exact Lib.tabBelow_of_tabIs HT.out _ qav3) : P := h
attribute [local go_sem] max2_int min2_int max_two min_two max_three min_three max_four min_four   -- for this text's walks alone
set_option linter.unusedVariables false
set_option linter.unusedSimpArgs false

def line_word.f (a0 : ByteArray) : Option (Int × ByteArray × Int) := some (1, a0, 0)
set_option maxHeartbeats 8000000 in
set_option maxRecDepth 100000 in
theorem line_word.calls (a0 : ByteArray) (r1 : Int) (r2 : ByteArray) (r3 : Int) (w : World) (h : line_word.f a0 = some (r1, r2, r3)) :
  Calls Tryz.prog 32 #[.string a0] w fun e w' => e = .returned (.agg #[.int .u8 r1, .string r2, .int .i64 r3]) ∧ Below w.heap.size w w' := by
 have hu61 := Tryz.underlying61
 have HB := Aside0.mk (Below.refl w.heap.size w)
 have H : (some (1, a0, 0)) = some (r1, r2, r3) := h
 clear h
 simp only [Option.some.injEq, Prod.mk.injEq] at H
 obtain ⟨rfl, rfl, rfl⟩ := H
 go_enter Tryz.func32, Tryz.ntmps32
 go_wp2_with (first | ((with_reducible refine gate_dst (N := 2) rfl ?_); refine box_event ?hg (N := 2) ?hd (cs := #[.int .u8 0, .string (⟨#[]⟩ : ByteArray), .int .i64 0]) (t := 61) ?hr ?_; (case hd => rfl); (case hg => rfl); (case hr => exact qav9); intro gb115 hg w2 hbox hb; have n0_ := Aside0.mk (below_step qav6 hb); have n1_ := Aside0.mk (hbox); have n2_ := Aside0.mk ((by rw [hg]; exact (below_size qav6) : w.heap.size ≤ gb115)); have n3_ := Aside0.mk ((by rw [hg]; exact (below_size qav6) : w.heap.size ≤ gb115)); clear HB; have HB := n0_; have BK115 := n1_; have GW115 := n2_; have GE115 := n3_; clear n0_ n1_ n2_ n3_; clear hb hbox hg; have hcz3_0 := bc0 BK115.out; have hcz3_1 := bc1 BK115.out; have hcz3_2 := bc2 BK115.out; have hfz3_0 := blk_frozen BK115.out 0; have hfz3_1 := blk_frozen BK115.out 1; have hfz3_2 := blk_frozen BK115.out 2))
 refine bodyPost_ret (results_cell_row rfl _ _ gb115 61 #[.int .u8 1, .string a0, .int .i64 0] (0, 0) _ rfl (by (with_reducible repeat (first | refine blk_drewN ?_ _ | refine blk_drew ?_ | refine blk_alloc ?_ _)); refine blk_put (cs := #[.int .u8 1, .string a0, .int .i64 0]) ?_ 2 _ rfl; (with_reducible repeat (first | refine blk_drewN ?_ _ | refine blk_drew ?_ | refine blk_alloc ?_ _)); refine blk_put (cs := #[.int .u8 1, .string (⟨#[]⟩ : ByteArray), .int .i64 0]) ?_ 1 _ rfl; (with_reducible repeat (first | refine blk_drewN ?_ _ | refine blk_drew ?_ | refine blk_alloc ?_ _)); refine blk_put (cs := #[.int .u8 0, .string (⟨#[]⟩ : ByteArray), .int .i64 0]) ?_ 0 _ rfl; (with_reducible repeat (first | refine blk_drewN ?_ _ | refine blk_drew ?_ | refine blk_alloc ?_ _)); exact BK115.out) Tryz.underlying61 rfl (by kernel_rfl)) rfl ?_
 exact ⟨by first | rfl | (simp [errW_none, errW_some] <;> rfl) | (simp [*, errW_none, errW_some] <;> rfl), by repeat (first | (with_reducible first | exact HB.out | apply below_alloc | apply pw_below_drewN | apply below_drew1 | refine below_set ?_ GE115.out) | exact HB.out)⟩

def line_plain.f (a0_0 : Int) (a0_1 : ByteArray) (a0_2 : Int) : Option (Bool) := if a0_0 = 1 then (if 0 < (a0_1.size : Int) then (if (bt a0_1 0) = 37 then (some false) else (if (bt a0_1 0) < 48 then (some true) else (some (decide ((bt a0_1 0) > 57))))) else (none)) else (some false)
set_option maxHeartbeats 8000000 in
set_option maxRecDepth 100000 in
theorem line_plain.calls (a0_0 : Int) (a0_1 : ByteArray) (a0_2 : Int) (r : Bool) (w : World) (h : line_plain.f a0_0 a0_1 a0_2 = some r) :
  Calls Tryz.prog 28 #[.agg #[.int .u8 a0_0, .string a0_1, .int .i64 a0_2]] w fun e w' => e = .returned (.bool r) ∧ Below w.heap.size w w' := by
 have hu61 := Tryz.underlying61
 have HB := Aside0.mk (Below.refl w.heap.size w)
 have H : (if a0_0 = 1 then (if 0 < (a0_1.size : Int) then (if (bt a0_1 0) = 37 then (some false) else (if (bt a0_1 0) < 48 then (some true) else (some (decide ((bt a0_1 0) > 57))))) else (none)) else (some false)) = some r := h
 clear h
 by_cases c2 : a0_0 = 1
 ·
  rw [if_pos c2] at H
  have c2b0 : (a0_0 == 1) = true := beq_iff_eq.mpr c2
  have c2b1 : (a0_0 != 1) = false := bne_eq_false_iff_eq.mpr c2
  clear c2
  by_cases c3 : 0 < (a0_1.size : Int)
  ·
   rw [if_pos c3] at H
   have c3b0 : decide (0 < (a0_1.size : Int)) = true := decide_eq_true c3
   have c3b1 : decide (0 < a0_1.size) = true := decide_eq_true (by omega)
   clear c3
   by_cases c5 : (bt a0_1 0) = 37
   ·
    rw [if_pos c5] at H
    have c5b0 : ((bt a0_1 0) == 37) = true := beq_iff_eq.mpr c5
    have c5b1 : ((bt a0_1 0) != 37) = false := bne_eq_false_iff_eq.mpr c5
    clear c5
    obtain rfl := Option.some.inj H
    go_enter Tryz.func28, Tryz.ntmps28
    go_wp2_with (first | ((with_reducible refine gate_dst (N := 1) rfl ?_); refine box_event ?hg (N := 1) ?hd (cs := #[.int .u8 a0_0, .string a0_1, .int .i64 a0_2]) (t := 61) ?hr ?_; (case hd => rfl); (case hg => rfl); (case hr => exact qav9); intro gb116 hg w6 hbox hb; have n0_ := Aside0.mk (below_step qav6 hb); have n1_ := Aside0.mk (hbox); have n2_ := Aside0.mk ((by rw [hg]; exact (below_size qav6) : w.heap.size ≤ gb116)); have n3_ := Aside0.mk ((by rw [hg]; exact (below_size qav6) : w.heap.size ≤ gb116)); clear HB; have HB := n0_; have BK116 := n1_; have GW116 := n2_; have GE116 := n3_; clear n0_ n1_ n2_ n3_; clear hb hbox hg; have hcz7_0 := bc0 BK116.out; have hcz7_1 := bc1 BK116.out; have hcz7_2 := bc2 BK116.out; have hfz7_0 := blk_frozen BK116.out 0; have hfz7_1 := blk_frozen BK116.out 1; have hfz7_2 := blk_frozen BK116.out 2; have p4 : 0 ≤ (0 : Int) := (by omega); have q4 : 0 < a0_1.size := (by have : (0 : Int) < (a0_1.size : Int) := of_decide_eq_true qav8; omega); have hx4 : ∀ h : 0 < a0_1.size, ((a0_1[0]'h).toNat : Int) = bt a0_1 0 := bt_at a0_1 0; clear p4; have qi4 : (0 < (a0_1.size : Int)) = True := eq_true (of_decide_eq_true qav8); replace q4 := eq_true q4))
    go_ret
    exact ⟨by first | rfl | (simp [errW_none, errW_some] <;> rfl) | (simp [*, errW_none, errW_some] <;> rfl), by repeat (first | (with_reducible first | exact HB.out | apply below_alloc | apply pw_below_drewN | apply below_drew1 | refine below_set ?_ GE116.out) | exact HB.out)⟩
   ·
    rw [if_neg c5] at H
    have c5b0 : ((bt a0_1 0) == 37) = false := beq_eq_false_iff_ne.mpr c5
    have c5b1 : ((bt a0_1 0) != 37) = true := bne_iff_ne.mpr c5
    by_cases c9 : (bt a0_1 0) < 48
    ·
     rw [if_pos c9] at H
     have c9b0 : decide ((bt a0_1 0) < 48) = true := decide_eq_true c9
     clear c9
     obtain rfl := Option.some.inj H
     go_enter Tryz.func28, Tryz.ntmps28
     go_wp2_with (first | ((with_reducible refine gate_dst (N := 1) rfl ?_); refine box_event ?hg (N := 1) ?hd (cs := #[.int .u8 a0_0, .string a0_1, .int .i64 a0_2]) (t := 61) ?hr ?_; (case hd => rfl); (case hg => rfl); (case hr => exact qav9); intro gb116 hg w10 hbox hb; have n0_ := Aside0.mk (below_step qav6 hb); have n1_ := Aside0.mk (hbox); have n2_ := Aside0.mk ((by rw [hg]; exact (below_size qav6) : w.heap.size ≤ gb116)); have n3_ := Aside0.mk ((by rw [hg]; exact (below_size qav6) : w.heap.size ≤ gb116)); clear HB; have HB := n0_; have BK116 := n1_; have GW116 := n2_; have GE116 := n3_; clear n0_ n1_ n2_ n3_; clear hb hbox hg; have hcz11_0 := bc0 BK116.out; have hcz11_1 := bc1 BK116.out; have hcz11_2 := bc2 BK116.out; have hfz11_0 := blk_frozen BK116.out 0; have hfz11_1 := blk_frozen BK116.out 1; have hfz11_2 := blk_frozen BK116.out 2; have p4 : 0 ≤ (0 : Int) := (by omega); have q4 : 0 < a0_1.size := (by have : (0 : Int) < (a0_1.size : Int) := of_decide_eq_true qav8; omega); have hx4 : ∀ h : 0 < a0_1.size, ((a0_1[0]'h).toNat : Int) = bt a0_1 0 := bt_at a0_1 0; clear p4; have qi4 : (0 < (a0_1.size : Int)) = True := eq_true (of_decide_eq_true qav8); replace q4 := eq_true q4; have p8 : 0 ≤ (0 : Int) := (by omega); have q8 : 0 < a0_1.size := (by have : (0 : Int) < (a0_1.size : Int) := of_decide_eq_true qav8; omega); have hx8 : ∀ h : 0 < a0_1.size, ((a0_1[0]'h).toNat : Int) = bt a0_1 0 := bt_at a0_1 0; clear p8; have qi8 : (0 < (a0_1.size : Int)) = True := eq_true (of_decide_eq_true qav8); replace q8 := eq_true q8))
     go_ret
     exact ⟨by first | rfl | (simp [errW_none, errW_some] <;> rfl) | (simp [*, errW_none, errW_some] <;> rfl), by repeat (first | (with_reducible first | exact HB.out | apply below_alloc | apply pw_below_drewN | apply below_drew1 | refine below_set ?_ GE116.out) | exact HB.out)⟩
    ·
     rw [if_neg c9] at H
     have c9b0 : decide ((bt a0_1 0) < 48) = false := decide_eq_false c9
     clear c9
     obtain rfl := Option.some.inj H
     go_enter Tryz.func28, Tryz.ntmps28
     go_wp2_with (first | ((with_reducible refine gate_dst (N := 1) rfl ?_); refine box_event ?hg (N := 1) ?hd (cs := #[.int .u8 a0_0, .string a0_1, .int .i64 a0_2]) (t := 61) ?hr ?_; (case hd => rfl); (case hg => rfl); (case hr => exact qav9); intro gb116 hg w13 hbox hb; have n0_ := Aside0.mk (below_step qav6 hb); have n1_ := Aside0.mk (hbox); have n2_ := Aside0.mk ((by rw [hg]; exact (below_size qav6) : w.heap.size ≤ gb116)); have n3_ := Aside0.mk ((by rw [hg]; exact (below_size qav6) : w.heap.size ≤ gb116)); clear HB; have HB := n0_; have BK116 := n1_; have GW116 := n2_; have GE116 := n3_; clear n0_ n1_ n2_ n3_; clear hb hbox hg; have hcz14_0 := bc0 BK116.out; have hcz14_1 := bc1 BK116.out; have hcz14_2 := bc2 BK116.out; have hfz14_0 := blk_frozen BK116.out 0; have hfz14_1 := blk_frozen BK116.out 1; have hfz14_2 := blk_frozen BK116.out 2; have p4 : 0 ≤ (0 : Int) := (by omega); have q4 : 0 < a0_1.size := (by have : (0 : Int) < (a0_1.size : Int) := of_decide_eq_true qav8; omega); have hx4 : ∀ h : 0 < a0_1.size, ((a0_1[0]'h).toNat : Int) = bt a0_1 0 := bt_at a0_1 0; clear p4; have qi4 : (0 < (a0_1.size : Int)) = True := eq_true (of_decide_eq_true qav8); replace q4 := eq_true q4; have p8 : 0 ≤ (0 : Int) := (by omega); have q8 : 0 < a0_1.size := (by have : (0 : Int) < (a0_1.size : Int) := of_decide_eq_true qav8; omega); have hx8 : ∀ h : 0 < a0_1.size, ((a0_1[0]'h).toNat : Int) = bt a0_1 0 := bt_at a0_1 0; clear p8; have qi8 : (0 < (a0_1.size : Int)) = True := eq_true (of_decide_eq_true qav8); replace q8 := eq_true q8; have p12 : 0 ≤ (0 : Int) := (by omega); have q12 : 0 < a0_1.size := (by have : (0 : Int) < (a0_1.size : Int) := of_decide_eq_true qav8; omega); have hx12 : ∀ h : 0 < a0_1.size, ((a0_1[0]'h).toNat : Int) = bt a0_1 0 := bt_at a0_1 0; clear p12; have qi12 : (0 < (a0_1.size : Int)) = True := eq_true (of_decide_eq_true qav8); replace q12 := eq_true q12))
     go_ret
     exact ⟨by first | rfl | (simp [errW_none, errW_some] <;> rfl) | (simp [*, errW_none, errW_some] <;> rfl), by repeat (first | (with_reducible first | exact HB.out | apply below_alloc | apply pw_below_drewN | apply below_drew1 | refine below_set ?_ GE116.out) | exact HB.out)⟩
  ·
   rw [if_neg c3] at H
   exact absurd H (by simp)
 ·
  rw [if_neg c2] at H
  have c2b0 : (a0_0 == 1) = false := beq_eq_false_iff_ne.mpr c2
  have c2b1 : (a0_0 != 1) = true := bne_iff_ne.mpr c2
  obtain rfl := Option.some.inj H
  go_enter Tryz.func28, Tryz.ntmps28
  go_wp2_with (first | ((with_reducible refine gate_dst (N := 1) rfl ?_); refine box_event ?hg (N := 1) ?hd (cs := #[.int .u8 a0_0, .string a0_1, .int .i64 a0_2]) (t := 61) ?hr ?_; (case hd => rfl); (case hg => rfl); (case hr => exact qav9); intro gb116 hg w15 hbox hb; have n0_ := Aside0.mk (below_step qav6 hb); have n1_ := Aside0.mk (hbox); have n2_ := Aside0.mk ((by rw [hg]; exact (below_size qav6) : w.heap.size ≤ gb116)); have n3_ := Aside0.mk ((by rw [hg]; exact (below_size qav6) : w.heap.size ≤ gb116)); clear HB; have HB := n0_; have BK116 := n1_; have GW116 := n2_; have GE116 := n3_; clear n0_ n1_ n2_ n3_; clear hb hbox hg; have hcz16_0 := bc0 BK116.out; have hcz16_1 := bc1 BK116.out; have hcz16_2 := bc2 BK116.out; have hfz16_0 := blk_frozen BK116.out 0; have hfz16_1 := blk_frozen BK116.out 1; have hfz16_2 := blk_frozen BK116.out 2))
  go_ret
  exact ⟨by first | rfl | (simp [errW_none, errW_some] <;> rfl) | (simp [*, errW_none, errW_some] <;> rfl), by repeat (first | (with_reducible first | exact HB.out | apply below_alloc | apply pw_below_drewN | apply below_drew1 | refine below_set ?_ GE116.out) | exact HB.out)⟩


def strconv_Itoa.f (a0 : Int) : Option ByteArray := if -9223372036854775808 ≤ a0 ∧ a0 ≤ 9223372036854775807 then some ⟨(Lib.itoa a0).toArray⟩ else none
theorem below_grow {w w' : World} (os : Array Obj) (h : Below w.heap.size w w') : Below w.heap.size w (Sort.grow w' os) :=
 ⟨h.os, h.tape, h.output, by have := h.size; simp [Sort.grow]; omega, fun i hi => by rw [← h.block i hi]; show (w'.heap ++ os)[i]? = _; exact Array.getElem?_append_left (Nat.lt_of_lt_of_le hi h.size)⟩
theorem strconv_Itoa.calls (a0 : Int) (r : ByteArray) (w : World) (hT : Lib.TabIs Tryz.prog w "internal/strconv.uint64pow10" .u64 Lib.pow10Tab) (h : strconv_Itoa.f a0 = some r) :
  Calls Tryz.prog 46 #[.int .i64 a0] w fun e w' => e = .returned (.string r) ∧ Below w.heap.size w w' := by
 unfold strconv_Itoa.f at h
 by_cases c : -9223372036854775808 ≤ a0 ∧ a0 ≤ 9223372036854775807
 ·
  rw [if_pos c] at h
  cases h
  refine (Tryz.strconv_Itoa a0 c.1 c.2 w hT).mono ?_
  rintro e w' ⟨rfl, k, os, rfl⟩
  exact ⟨rfl, below_grow os (pw_below_drewN (Below.refl _ _) k)⟩
 ·
  rw [if_neg c] at h
  cases h

def lex_shown.f (a0 : ByteArray) : Option (ByteArray × Bool) := if a0.size ≤ 100000000000 then some (LexW.shownF a0) else none
theorem lex_shown.calls (a0 : ByteArray) (r1 : ByteArray) (r2 : Bool) (w : World) (h : lex_shown.f a0 = some (r1, r2)) :
  Calls Tryz.prog 56 #[.string a0] w fun e w' => e = .returned (.tuple #[.string r1, .bool r2]) ∧ Below w.heap.size w w' := by
 unfold lex_shown.f at h
 by_cases c : a0.size ≤ 100000000000
 ·
  rw [if_pos c] at h
  have := LexW.shown_calls a0 c w
  rw [Option.some.inj h] at this
  exact this
 ·
  rw [if_neg c] at h
  cases h


def strconv_FormatUint.f (a0 a1 : Int) : Option ByteArray := if 0 ≤ a0 ∧ a0 < 18446744073709551616 ∧ a1 = 16 then some ⟨(LexW.hexL a0.toNat).toArray⟩ else none
theorem strconv_FormatUint.calls (a0 a1 : Int) (r : ByteArray) (w : World) (hD : LexW.LexD w) (h : strconv_FormatUint.f a0 a1 = some r) :
  Calls Tryz.prog 57 #[.int .u64 a0, .int .i64 a1] w fun e w' => e = .returned (.string r) ∧ Below w.heap.size w w' := by
 unfold strconv_FormatUint.f at h
 by_cases c : 0 ≤ a0 ∧ a0 < 18446744073709551616 ∧ a1 = 16
 ·
  rw [if_pos c] at h
  obtain ⟨c0, c1, rfl⟩ := c
  obtain ⟨u, rfl⟩ := Int.eq_ofNat_of_zero_le c0
  rw [← Option.some.inj h]
  exact LexW.fu16 u (by omega) w hD
 ·
  rw [if_neg c] at h
  cases h


def strings_Repeat.f (a0 : ByteArray) (a1 : Int) : Option ByteArray := if 0 ≤ a1 ∧ a1 ≤ 1000000 ∧ a0.size ≤ 1000000 then some ⟨(Lib.repeatL a0.data.toList a1.toNat).toArray⟩ else none
theorem strings_Repeat.calls (a0 : ByteArray) (a1 : Int) (r : ByteArray) (w : World) (h : strings_Repeat.f a0 a1 = some r) :
  Calls Tryz.prog 58 #[.string a0, .int .i64 a1] w fun e w' => e = .returned (.string r) ∧ Below w.heap.size w w' := by
 unfold strings_Repeat.f at h
 by_cases c : 0 ≤ a1 ∧ a1 ≤ 1000000 ∧ a0.size ≤ 1000000
 ·
  rw [if_pos c] at h
  obtain ⟨c0, c1, c2⟩ := c
  obtain ⟨u, rfl⟩ := Int.eq_ofNat_of_zero_le c0
  rw [← Option.some.inj h]
  exact Tryz.strings_Repeat a0 u w (by omega) (by have := Nat.mul_le_mul c2 (show u ≤ 1000000 by omega); omega)
 ·
  rw [if_neg c] at h
  cases h

def lex_text.j0 : Nat → Bool → Int → ByteArray → Int → Option (ByteArray × Bool)
 | 0, _, _, _, _ => none
 | k + 1, x75, x126000, x126001, x126002 => if x75 = true then ((strconv_Itoa.f x126002).bind fun t131 => (some (t131, (x126001.toList == ([] : List UInt8))))) else ((strconv_FormatUint.f (IntKind.u64.wrap (x126002)) 16).bind fun t132 => ((strings_Repeat.f (⟨#[48]⟩ : ByteArray) (wrap64 (16 - (t132.size : Int)))).bind fun t133 => (if 2 + t133.size ≤ 9223372036854775807 then (if ((⟨#[48, 120]⟩ : ByteArray) ++ t133).size + t132.size ≤ 9223372036854775807 then (some (((⟨#[48, 120]⟩ : ByteArray) ++ t133) ++ t132, (x126001.toList == ([] : List UInt8)))) else (none)) else (none))))
def lex_text.f (k : Nat) (a0_0 : Int) (a0_1 : ByteArray) (a0_2 : Int) : Option (ByteArray × Bool) := if a0_0 = 1 then (if a0_2 = 0 then ((lex_name.f k a0_1).bind fun t126 => (if t126 = true then (some (a0_1, true)) else ((lex_local.f k a0_1).bind fun t127 => (some (a0_1, t127))))) else (some (a0_1, false))) else (if a0_0 = 4 then (if a0_2 = 0 then (if (a0_1.size : Int) = 1 then (if 0 < (a0_1.size : Int) then ((lex_mark.f (bt a0_1 0)).bind fun t128 => (some (a0_1, t128))) else (none)) else (some (a0_1, false))) else (some (a0_1, false))) else (if a0_0 = 3 then ((lex_shown.f a0_1).bind fun bt129 => (if bt129.2 = true then (if a0_2 = 0 then (some (bt129.1, decide ((a0_1.size : Int) ≤ 256))) else (some (bt129.1, false))) else (some (bt129.1, false)))) else (if a0_0 = 2 then (if a0_2 ≥ 0 then (lex_text.j0 k (decide (a0_2 < 1000000000000000000)) a0_0 a0_1 a0_2) else (lex_text.j0 k false a0_0 a0_1 a0_2)) else (some ((⟨#[]⟩ : ByteArray), false)))))
theorem lex_text.mono_l : ∀ k, (∀ y0 y1 y2 y3, LeO (lex_text.j0 k y0 y1 y2 y3) (lex_text.j0 (k + 1) y0 y1 y2 y3))
 | 0 => fun _ _ _ _ r h => by simp [lex_text.j0] at h
 | k + 1 => by
  have ih0 := lex_text.mono_l k
  ·
   intro y0 y1 y2 y3
   unfold lex_text.j0
   repeat' first
   | (with_reducible exact ih0 _ _ _ _)
   | (with_reducible exact lex_local.mono _ _)
   | (with_reducible exact lex_name.mono _ _)
   | (with_reducible exact LeO.refl _)
   | (with_reducible exact LeO.none _)
   | (with_reducible refine LeO.ite ?_ ?_)
   | (with_reducible refine LeO.bind ?_ (fun _ => ?_))
   | exact ih0 _ _ _ _
   | exact lex_local.mono _ _
   | exact lex_name.mono _ _
   | exact LeO.none _
   | refine LeO.ite ?_ ?_
   | refine LeO.bind ?_ (fun _ => ?_)
theorem lex_text.mono : ∀ a0 a1 a2 k, LeO (lex_text.f k a0 a1 a2) (lex_text.f (k + 1) a0 a1 a2) := by
 intro a0 a1 a2 k
 have ih0 := lex_text.mono_l k
 unfold lex_text.f
 repeat' first
   | (with_reducible exact ih0 _ _ _ _)
   | (with_reducible exact lex_local.mono _ _)
   | (with_reducible exact lex_name.mono _ _)
   | (with_reducible exact LeO.refl _)
   | (with_reducible exact LeO.none _)
   | (with_reducible refine LeO.ite ?_ ?_)
   | (with_reducible refine LeO.bind ?_ (fun _ => ?_))
   | exact ih0 _ _ _ _
   | exact lex_local.mono _ _
   | exact lex_name.mono _ _
   | exact LeO.none _
   | refine LeO.ite ?_ ?_
   | refine LeO.bind ?_ (fun _ => ?_)
def lex_text.B3 : List Nat := [0, 1, 0, 4, 12, 28, 60, 124, 252, 508, 1020, 2044, 4092, 8188, 16380, 8191, 65535]
def lex_text.B8 : List Nat := [0, 0, 2, 6, 14, 30, 62, 126, 254, 510, 1022, 2046, 4094, 255, 16383]
set_option maxHeartbeats 8000000 in
set_option maxRecDepth 100000 in
theorem text_word (k : Nat) (a0_1 : ByteArray) (a0_2 : Int) (r1 : ByteArray) (r2 : Bool) (w : World) (h : (if a0_2 = 0 then ((lex_name.f k a0_1).bind fun t => (if t = true then (some (a0_1, true)) else ((lex_local.f k a0_1).bind fun t => (some (a0_1, t))))) else (some (a0_1, false))) = some (r1, r2)) :
  Calls Tryz.prog 35 #[.agg #[.int .u8 1, .string a0_1, .int .i64 a0_2]] w fun e w' => e = .returned (.tuple #[.string r1, .bool r2]) ∧ Below w.heap.size w w' := by
 by_cases c : a0_2 = 0
 ·
  rw [if_pos c] at h
  have n0 : (a0_2 == 0) = true := beq_iff_eq.2 c
  obtain ⟨t, hn, h⟩ := Option.bind_eq_some_iff.1 h
  have HN := Aside0.mk hn
  clear c hn
  cases t with
  | true =>
   cases h
   go_enter Tryz.func35, Tryz.ntmps35
   go_wp2_with (first | ((with_reducible refine gate_dst (N := 1) rfl ?_); refine box_event ?hg (N := 1) ?hd (cs := #[.int .u8 1, .string a0_1, .int .i64 a0_2]) (t := 61) ?hr ?_; (case hd => rfl); (case hg => rfl); (case hr => exact qav9); intro g hg w1 hbox hb; have BK := Aside0.mk hbox; have HB := Aside0.mk hb; have c0 := bc0 hbox; have cf0 := blk_frozen hbox 0; have c1 := bc1 hbox; have cf1 := blk_frozen hbox 1; have c2 := bc2 hbox; have cf2 := blk_frozen hbox 2;  clear hb hbox hg))
   repeat (go_quiet (first | (go_at_call 53; (with_reducible refine (lex_name.calls k a0_1 _ _ HN.out).mono ?_); rintro e w' ⟨rfl, ⟨nd, rfl⟩⟩; first | exact ⟨rfl, _, World.drewN_drewN _ _ _⟩ | exact ⟨rfl, _, Eq.trans (World.drewN_drewN _ _ _) (congrArg (World.drewN _) (Nat.add_assoc _ _ _))⟩)); try go_wp2)
   go_ret2
   exact ⟨rfl, by repeat (first | exact HB.out | apply pw_below_drewN | apply below_drew1)⟩
  | false =>
   rw [if_neg (by simp)] at h
   obtain ⟨u, hl, h⟩ := Option.bind_eq_some_iff.1 h
   have HL := Aside0.mk hl
   cases h
   clear hl
   go_enter Tryz.func35, Tryz.ntmps35
   go_wp2_with (first | ((with_reducible refine gate_dst (N := 1) rfl ?_); refine box_event ?hg (N := 1) ?hd (cs := #[.int .u8 1, .string a0_1, .int .i64 a0_2]) (t := 61) ?hr ?_; (case hd => rfl); (case hg => rfl); (case hr => exact qav9); intro g hg w1 hbox hb; have BK := Aside0.mk hbox; have HB := Aside0.mk hb; have c0 := bc0 hbox; have cf0 := blk_frozen hbox 0; have c1 := bc1 hbox; have cf1 := blk_frozen hbox 1; have c2 := bc2 hbox; have cf2 := blk_frozen hbox 2;  clear hb hbox hg))
   repeat (go_quiet (first | (go_at_call 53; (with_reducible refine (lex_name.calls k a0_1 _ _ HN.out).mono ?_); rintro e w' ⟨rfl, ⟨nd, rfl⟩⟩; first | exact ⟨rfl, _, World.drewN_drewN _ _ _⟩ | exact ⟨rfl, _, Eq.trans (World.drewN_drewN _ _ _) (congrArg (World.drewN _) (Nat.add_assoc _ _ _))⟩) | (go_at_call 54; (with_reducible refine (lex_local.calls k a0_1 _ _ HL.out).mono ?_); rintro e w' ⟨rfl, ⟨nd, rfl⟩⟩; first | exact ⟨rfl, _, World.drewN_drewN _ _ _⟩ | exact ⟨rfl, _, Eq.trans (World.drewN_drewN _ _ _) (congrArg (World.drewN _) (Nat.add_assoc _ _ _))⟩)); try go_wp2)
   go_ret2
   exact ⟨rfl, by repeat (first | exact HB.out | apply pw_below_drewN | apply below_drew1)⟩
 ·
  rw [if_neg c] at h
  have n0 : (a0_2 == 0) = false := beq_eq_false_iff_ne.2 c
  cases h
  clear c
  go_enter Tryz.func35, Tryz.ntmps35
  go_wp2_with (first | ((with_reducible refine gate_dst (N := 1) rfl ?_); refine box_event ?hg (N := 1) ?hd (cs := #[.int .u8 1, .string a0_1, .int .i64 a0_2]) (t := 61) ?hr ?_; (case hd => rfl); (case hg => rfl); (case hr => exact qav9); intro g hg w1 hbox hb; have BK := Aside0.mk hbox; have HB := Aside0.mk hb; have c0 := bc0 hbox; have cf0 := blk_frozen hbox 0; have c1 := bc1 hbox; have cf1 := blk_frozen hbox 1; have c2 := bc2 hbox; have cf2 := blk_frozen hbox 2;  clear hb hbox hg))
  repeat (go_quiet (fail); try go_wp2)
  go_ret2
  exact ⟨rfl, by repeat (first | exact HB.out | apply pw_below_drewN | apply below_drew1)⟩
set_option maxHeartbeats 8000000 in
set_option maxRecDepth 100000 in
theorem text_mark (a0_1 : ByteArray) (a0_2 : Int) (r1 : ByteArray) (r2 : Bool) (w : World) (h : (if a0_2 = 0 then (if (a0_1.size : Int) = 1 then (if 0 < (a0_1.size : Int) then ((lex_mark.f (bt a0_1 0)).bind fun t => (some (a0_1, t))) else (none)) else (some (a0_1, false))) else (some (a0_1, false))) = some (r1, r2)) :
  Calls Tryz.prog 35 #[.agg #[.int .u8 4, .string a0_1, .int .i64 a0_2]] w fun e w' => e = .returned (.tuple #[.string r1, .bool r2]) ∧ Below w.heap.size w w' := by
 by_cases c : a0_2 = 0
 ·
  rw [if_pos c] at h
  have n0 : (a0_2 == 0) = true := beq_iff_eq.2 c
  by_cases s : (a0_1.size : Int) = 1
  ·
   rw [if_pos s, if_pos (by omega)] at h
   have s0 : ((a0_1.size : Int) == 1) = true := beq_iff_eq.2 s
   have s1 : (a0_1.size == 1) = true := beq_iff_eq.2 (by omega)
   have s2 := eq_true (show 0 < a0_1.size by omega)
   have s3 : decide (0 < a0_1.size) = true := decide_eq_true (by omega)
   have s5 : a0_1.size = 1 := by omega
   obtain ⟨t, hm, h⟩ := Option.bind_eq_some_iff.1 h
   have hm2 : lex_mark.f ((a0_1[0]'(by omega)).toNat : Int) = some t := by simpa [bt, show 0 < a0_1.size by omega] using hm
   have HM := Aside0.mk hm2
   cases h
   clear hm hm2
   go_enter Tryz.func35, Tryz.ntmps35
   go_wp2_with (first | ((with_reducible refine gate_dst (N := 1) rfl ?_); refine box_event ?hg (N := 1) ?hd (cs := #[.int .u8 4, .string a0_1, .int .i64 a0_2]) (t := 61) ?hr ?_; (case hd => rfl); (case hg => rfl); (case hr => exact qav9); intro g hg w1 hbox hb; have BK := Aside0.mk hbox; have HB := Aside0.mk hb; have c0 := bc0 hbox; have cf0 := blk_frozen hbox 0; have c1 := bc1 hbox; have cf1 := blk_frozen hbox 1; have c2 := bc2 hbox; have cf2 := blk_frozen hbox 2;  clear hb hbox hg))
   repeat (go_quiet (first | (go_at_call 55; (with_reducible refine (lex_mark.calls _ _ _ HM.out).mono ?_); rintro e w' ⟨rfl, ⟨nd, rfl⟩⟩; first | exact ⟨rfl, _, World.drewN_drewN _ _ _⟩ | exact ⟨rfl, _, Eq.trans (World.drewN_drewN _ _ _) (congrArg (World.drewN _) (Nat.add_assoc _ _ _))⟩)); try go_wp2)
   go_ret2
   exact ⟨rfl, by repeat (first | exact HB.out | apply pw_below_drewN | apply below_drew1)⟩
  ·
   rw [if_neg s] at h
   have s0 : ((a0_1.size : Int) == 1) = false := beq_eq_false_iff_ne.2 s
   have s1 : (a0_1.size == 1) = false := beq_eq_false_iff_ne.2 (by omega)
   cases h
   clear c s
   go_enter Tryz.func35, Tryz.ntmps35
   go_wp2_with (first | ((with_reducible refine gate_dst (N := 1) rfl ?_); refine box_event ?hg (N := 1) ?hd (cs := #[.int .u8 4, .string a0_1, .int .i64 a0_2]) (t := 61) ?hr ?_; (case hd => rfl); (case hg => rfl); (case hr => exact qav9); intro g hg w1 hbox hb; have BK := Aside0.mk hbox; have HB := Aside0.mk hb; have c0 := bc0 hbox; have cf0 := blk_frozen hbox 0; have c1 := bc1 hbox; have cf1 := blk_frozen hbox 1; have c2 := bc2 hbox; have cf2 := blk_frozen hbox 2;  clear hb hbox hg))
   repeat (go_quiet (fail); try go_wp2)
   go_ret2
   exact ⟨rfl, by repeat (first | exact HB.out | apply pw_below_drewN | apply below_drew1)⟩
 ·
  rw [if_neg c] at h
  have n0 : (a0_2 == 0) = false := beq_eq_false_iff_ne.2 c
  cases h
  clear c
  go_enter Tryz.func35, Tryz.ntmps35
  go_wp2_with (first | ((with_reducible refine gate_dst (N := 1) rfl ?_); refine box_event ?hg (N := 1) ?hd (cs := #[.int .u8 4, .string a0_1, .int .i64 a0_2]) (t := 61) ?hr ?_; (case hd => rfl); (case hg => rfl); (case hr => exact qav9); intro g hg w1 hbox hb; have BK := Aside0.mk hbox; have HB := Aside0.mk hb; have c0 := bc0 hbox; have cf0 := blk_frozen hbox 0; have c1 := bc1 hbox; have cf1 := blk_frozen hbox 1; have c2 := bc2 hbox; have cf2 := blk_frozen hbox 2;  clear hb hbox hg))
  repeat (go_quiet (fail); try go_wp2)
  go_ret2
  exact ⟨rfl, by repeat (first | exact HB.out | apply pw_below_drewN | apply below_drew1)⟩
set_option maxHeartbeats 8000000 in
set_option maxRecDepth 100000 in
theorem text_shown (a0_1 : ByteArray) (a0_2 : Int) (r1 : ByteArray) (r2 : Bool) (w : World) (h : ((lex_shown.f a0_1).bind fun bt => (if bt.2 = true then (if a0_2 = 0 then (some (bt.1, decide ((a0_1.size : Int) ≤ 256))) else (some (bt.1, false))) else (some (bt.1, false)))) = some (r1, r2)) :
  Calls Tryz.prog 35 #[.agg #[.int .u8 3, .string a0_1, .int .i64 a0_2]] w fun e w' => e = .returned (.tuple #[.string r1, .bool r2]) ∧ Below w.heap.size w w' := by
 obtain ⟨⟨s, b⟩, hs, h⟩ := Option.bind_eq_some_iff.1 h
 have HS := Aside0.mk hs
 clear hs
 cases b with
 | true =>
  rw [if_pos rfl] at h
  by_cases c : a0_2 = 0
  ·
   rw [if_pos c] at h
   have n0 : (a0_2 == 0) = true := beq_iff_eq.2 c
   cases h
   clear c
   go_enter Tryz.func35, Tryz.ntmps35
   go_wp2_with (first | ((with_reducible refine gate_dst (N := 1) rfl ?_); refine box_event ?hg (N := 1) ?hd (cs := #[.int .u8 3, .string a0_1, .int .i64 a0_2]) (t := 61) ?hr ?_; (case hd => rfl); (case hg => rfl); (case hr => exact qav9); intro g hg w1 hbox hb; have BK := Aside0.mk hbox; have HB := Aside0.mk hb; have c0 := bc0 hbox; have cf0 := blk_frozen hbox 0; have c1 := bc1 hbox; have cf1 := blk_frozen hbox 1; have c2 := bc2 hbox; have cf2 := blk_frozen hbox 2;  clear hb hbox hg) | (go_at_call 56; (with_reducible refine (lex_shown.calls a0_1 _ _ _ HS.out).mono ?_); rintro e w2 ⟨rfl, hb⟩; have BK2 := Aside0.mk (blk_below BK.out hb); have HB2 := Aside0.mk (below_step HB.out hb); have d0 := bc0 BK2.out; have df0 := blk_frozen BK2.out 0; have d1 := bc1 BK2.out; have df1 := blk_frozen BK2.out 1; have d2 := bc2 BK2.out; have df2 := blk_frozen BK2.out 2;  clear hb))
   repeat (go_quiet (fail); try go_wp2)
   go_ret2
   exact ⟨by first | rfl | (simp; done), by repeat (first | exact HB2.out | apply pw_below_drewN | apply below_drew1)⟩
  ·
   rw [if_neg c] at h
   have n0 : (a0_2 == 0) = false := beq_eq_false_iff_ne.2 c
   cases h
   clear c
   go_enter Tryz.func35, Tryz.ntmps35
   go_wp2_with (first | ((with_reducible refine gate_dst (N := 1) rfl ?_); refine box_event ?hg (N := 1) ?hd (cs := #[.int .u8 3, .string a0_1, .int .i64 a0_2]) (t := 61) ?hr ?_; (case hd => rfl); (case hg => rfl); (case hr => exact qav9); intro g hg w1 hbox hb; have BK := Aside0.mk hbox; have HB := Aside0.mk hb; have c0 := bc0 hbox; have cf0 := blk_frozen hbox 0; have c1 := bc1 hbox; have cf1 := blk_frozen hbox 1; have c2 := bc2 hbox; have cf2 := blk_frozen hbox 2;  clear hb hbox hg) | (go_at_call 56; (with_reducible refine (lex_shown.calls a0_1 _ _ _ HS.out).mono ?_); rintro e w2 ⟨rfl, hb⟩; have BK2 := Aside0.mk (blk_below BK.out hb); have HB2 := Aside0.mk (below_step HB.out hb); have d0 := bc0 BK2.out; have df0 := blk_frozen BK2.out 0; have d1 := bc1 BK2.out; have df1 := blk_frozen BK2.out 1; have d2 := bc2 BK2.out; have df2 := blk_frozen BK2.out 2;  clear hb))
   repeat (go_quiet (fail); try go_wp2)
   go_ret2
   exact ⟨rfl, by repeat (first | exact HB2.out | apply pw_below_drewN | apply below_drew1)⟩
 | false =>
  rw [if_neg (by simp)] at h
  cases h
  go_enter Tryz.func35, Tryz.ntmps35
  go_wp2_with (first | ((with_reducible refine gate_dst (N := 1) rfl ?_); refine box_event ?hg (N := 1) ?hd (cs := #[.int .u8 3, .string a0_1, .int .i64 a0_2]) (t := 61) ?hr ?_; (case hd => rfl); (case hg => rfl); (case hr => exact qav9); intro g hg w1 hbox hb; have BK := Aside0.mk hbox; have HB := Aside0.mk hb; have c0 := bc0 hbox; have cf0 := blk_frozen hbox 0; have c1 := bc1 hbox; have cf1 := blk_frozen hbox 1; have c2 := bc2 hbox; have cf2 := blk_frozen hbox 2;  clear hb hbox hg) | (go_at_call 56; (with_reducible refine (lex_shown.calls a0_1 _ _ _ HS.out).mono ?_); rintro e w2 ⟨rfl, hb⟩; have BK2 := Aside0.mk (blk_below BK.out hb); have HB2 := Aside0.mk (below_step HB.out hb); have d0 := bc0 BK2.out; have df0 := blk_frozen BK2.out 0; have d1 := bc1 BK2.out; have df1 := blk_frozen BK2.out 1; have d2 := bc2 BK2.out; have df2 := blk_frozen BK2.out 2;  clear hb))
  repeat (go_quiet (fail); try go_wp2)
  go_ret2
  exact ⟨rfl, by repeat (first | exact HB2.out | apply pw_below_drewN | apply below_drew1)⟩
set_option maxHeartbeats 8000000 in
set_option maxRecDepth 100000 in
theorem text_dec (a0_1 : ByteArray) (a0_2 : Int) (r1 : ByteArray) (r2 : Bool) (w : World) (hT : Lib.TabIs Tryz.prog w "internal/strconv.uint64pow10" .u64 Lib.pow10Tab) (hD : LexW.LexD w) (h0 : 0 ≤ a0_2) (h1 : a0_2 < 1000000000000000000) (hi : strconv_Itoa.f a0_2 = some r1) (hr : (a0_1.toList == ([] : List UInt8)) = r2) :
  Calls Tryz.prog 35 #[.agg #[.int .u8 2, .string a0_1, .int .i64 a0_2]] w fun e w' => e = .returned (.tuple #[.string r1, .bool r2]) ∧ Below w.heap.size w w' := by
 have HT := Aside0.mk hT
 have HD := Aside0.mk hD
 clear hT hD
 have HI := Aside0.mk hi
 have RR := Aside0.mk hr
 have n0 : decide (0 ≤ a0_2) = true := decide_eq_true h0
 have n1 : decide (a0_2 < 1000000000000000000) = true := decide_eq_true h1
 clear h0 h1 hi hr
 go_enter Tryz.func35, Tryz.ntmps35
 go_wp2_with (first | ((with_reducible refine gate_dst (N := 1) rfl ?_); refine box_event ?hg (N := 1) ?hd (cs := #[.int .u8 2, .string a0_1, .int .i64 a0_2]) (t := 61) ?hr ?_; (case hd => rfl); (case hg => rfl); (case hr => exact qav9); intro g hg w1 hbox hb; have BK := Aside0.mk hbox; have HB := Aside0.mk hb; have c0 := bc0 hbox; have cf0 := blk_frozen hbox 0; have c1 := bc1 hbox; have cf1 := blk_frozen hbox 1; have c2 := bc2 hbox; have cf2 := blk_frozen hbox 2;  clear hb hbox hg))
 have HBd := Aside0.mk (below_drew1 HB.out)
 have hT1 := Lib.tabBelow_of_tabIs HT.out _ HBd.out
 refine start_ (n := 8) (S := fun w' => w'.cell? ⟨g, 1, none⟩ = some (.string a0_1) ∧ w'.cell? ⟨g, 2, none⟩ = some (.int .i64 a0_2)) (ds := []) #[false, false, false, false, false, false, false, false] (by kernel_rfl) rfl rfl ⟨c1, c2⟩ (fun hHeld => ?_)
 refine pure_ (i := 0) (N := some 76) (v := ?_) (a' := ?_) #[true, false, false, false, false, false, false, false] rfl rfl (by kernel_rfl) (fun _ _ _ h => h) (Or.inl ⟨by rfl, ?_⟩) ?_ ?_
 rotate_left
 ·
  intro w'
  go_simp
  with_reducible rfl
 rotate_left
 ·
  simp only [Act.put, List.setIfInBounds_toArray, List.set_cons_zero, List.set_cons_succ, i64_w, i32_w]
  rfl
 refine pure_ (i := 3) (N := some 79) (v := ?_) (a' := ?_) #[true, false, false, true, false, false, false, false] rfl rfl (by kernel_rfl) (fun _ _ _ h => h) (Or.inl ⟨by rfl, ?_⟩) ?_ ?_
 rotate_left
 ·
  intro w'
  go_simp
  with_reducible rfl
 rotate_left
 ·
  simp only [Act.put, List.setIfInBounds_toArray, List.set_cons_zero, List.set_cons_succ, i64_w, i32_w]
  rfl
 refine take_ (i := 1) (N := some 77) (v := ?_) (a' := ?_) #[true, true, false, true, false, false, false, false] rfl rfl (by kernel_rfl) (fun _ _ _ h => h) (Or.inl ⟨by rfl, ?_⟩) hHeld ?_ ?_
 rotate_left
 ·
  rintro w' ⟨s0, s1⟩
  go_simp
  with_reducible rfl
 rotate_left
 ·
  simp only [Act.put, List.setIfInBounds_toArray, List.set_cons_zero, List.set_cons_succ, i64_w, i32_w]
  rfl
 refine take_ (i := 4) (N := some 80) (v := ?_) (a' := ?_) #[true, true, false, true, true, false, false, false] rfl rfl (by kernel_rfl) (fun _ _ _ h => h) (Or.inl ⟨by rfl, ?_⟩) hHeld ?_ ?_
 rotate_left
 ·
  rintro w' ⟨s0, s1⟩
  go_simp
  with_reducible rfl
 rotate_left
 ·
  simp only [Act.put, List.setIfInBounds_toArray, List.set_cons_zero, List.set_cons_succ, i64_w, i32_w]
  rfl
 refine pure_ (i := 5) (N := some 81) (v := ?_) (a' := ?_) #[true, true, false, true, true, true, false, false] rfl rfl (by kernel_rfl) (fun _ _ _ h => h) (Or.inl ⟨by rfl, ?_⟩) ?_ ?_
 rotate_left
 ·
  intro w'
  go_simp
  with_reducible rfl
 rotate_left
 ·
  simp only [Act.put, List.setIfInBounds_toArray, List.set_cons_zero, List.set_cons_succ, i64_w, i32_w]
  rfl
 refine one_ (i := 2) (N := some 78) #[true, true, true, true, true, true, false, false] rfl rfl (by kernel_rfl) (by decide) (fun K hK => ?_)
 refine goes_ Tryz.func46 (by kernel_rfl) rfl #[.int .i64 a0_2] (by rfl) rfl rfl (by simp only [List.map_toArray, List.map_cons, List.map_nil]; rfl) ?_
 with_reducible refine (strconv_Itoa.calls a0_2 r1 _ hT1 HI.out).mono ?_
 rintro e w2 ⟨rfl, hb⟩
 refine ⟨_, rfl, ?_⟩
 have HB2 := Aside0.mk (below_step HBd.out hb)
 refine hK.out _ _ ⟨((hb.cell (World.block_lt_of_cell? _ _ hHeld.1)).trans hHeld.1), ((hb.cell (World.block_lt_of_cell? _ _ hHeld.2)).trans hHeld.2)⟩ (fun hHeld => ?_)
 clear hK K
 refine norm_ (a' := ?_) ?_ ?_
 rotate_left
 ·
  show Act.put _ (some 78) _ = _
  simp only [Act.put, List.setIfInBounds_toArray, List.set_cons_zero, List.set_cons_succ, i64_w, i32_w]
  rfl
 refine pure_ (i := 6) (N := some 2) (v := ?_) (a' := ?_) #[true, true, true, true, true, true, true, false] rfl rfl (by kernel_rfl) (fun _ _ _ h => h) (Or.inl ⟨by rfl, ?_⟩) ?_ ?_
 rotate_left
 ·
  intro w'
  go_simp
  with_reducible rfl
 rotate_left
 ·
  simp only [Act.put, List.setIfInBounds_toArray, List.set_cons_zero, List.set_cons_succ, i64_w, i32_w]
  rfl
 refine pure_ (i := 7) (N := some 3) (v := ?_) (a' := ?_) #[true, true, true, true, true, true, true, true] rfl rfl (by kernel_rfl) (fun _ _ _ h => h) (Or.inl ⟨by rfl, ?_⟩) ?_ ?_
 rotate_left
 ·
  intro w'
  go_simp
  with_reducible rfl
 rotate_left
 ·
  simp only [Act.put, List.setIfInBounds_toArray, List.set_cons_zero, List.set_cons_succ, i64_w, i32_w]
  rfl
 refine done_ (by kernel_rfl) ?_
 go_wp2
 go_ret2
 exact ⟨by rw [← RR.out]; first | rfl | (simp; done) | (simp [List.isEmpty_iff]; done), HB2.out⟩
set_option maxHeartbeats 8000000 in
set_option maxRecDepth 100000 in
theorem text_hex (a0_1 : ByteArray) (a0_2 : Int) (r1 : ByteArray) (r2 : Bool) (w : World) (hT : Lib.TabIs Tryz.prog w "internal/strconv.uint64pow10" .u64 Lib.pow10Tab) (hD : LexW.LexD w) (b : Bool) (hb : b = (decide (0 ≤ a0_2) && decide (a0_2 < 1000000000000000000))) (hf : b = false) (u z : ByteArray) (hu : strconv_FormatUint.f (IntKind.u64.wrap a0_2) 16 = some u) (hz : strings_Repeat.f (⟨#[48]⟩ : ByteArray) (wrap64 (16 - (u.size : Int))) = some z) (h1 : 2 + z.size ≤ 9223372036854775807) (h2 : ((⟨#[48, 120]⟩ : ByteArray) ++ z).size + u.size ≤ 9223372036854775807) (h3 : r1 = ((⟨#[48, 120]⟩ : ByteArray) ++ z) ++ u) (hr : (a0_1.toList == ([] : List UInt8)) = r2) :
  Calls Tryz.prog 35 #[.agg #[.int .u8 2, .string a0_1, .int .i64 a0_2]] w fun e w' => e = .returned (.tuple #[.string r1, .bool r2]) ∧ Below w.heap.size w w' := by
 have HT := Aside0.mk hT
 have HD := Aside0.mk hD
 clear hT hD
 have HU := Aside0.mk hu
 have HZ := Aside0.mk hz
 have RR := Aside0.mk hr
 have R3 := Aside0.mk h3
 have z1b := eq_true h1
 have z1d : (9223372036854775807 < 2 + z.size) = False := eq_false (Nat.not_lt.2 h1)
 have e3 : ((⟨#[48, 120]⟩ : ByteArray) ++ z).size = 2 + z.size := by rw [ByteArray.size_append]; rfl
 rw [e3] at h2
 have z2b := eq_true h2
 have z2d : (9223372036854775807 < 2 + z.size + u.size) = False := eq_false (Nat.not_lt.2 h2)
 clear hu hz hr h3 h1 h2 e3
 subst hf
 rcases (show (decide (0 ≤ a0_2) = false) ∨ (decide (0 ≤ a0_2) = true ∧ decide (a0_2 < 1000000000000000000) = false) by
  cases h : decide (0 ≤ a0_2) with
  | false => exact .inl rfl
  | true => rw [h] at hb; exact .inr ⟨rfl, by simpa using hb.symm⟩) with n0 | ⟨n0, n1⟩
 all_goals
  clear hb
  go_enter Tryz.func35, Tryz.ntmps35
  go_wp2_with (first | ((with_reducible refine gate_dst (N := 1) rfl ?_); refine box_event ?hg (N := 1) ?hd (cs := #[.int .u8 2, .string a0_1, .int .i64 a0_2]) (t := 61) ?hr ?_; (case hd => rfl); (case hg => rfl); (case hr => exact qav9); intro g hg w1 hbox hb; have BK := Aside0.mk hbox; have HB := Aside0.mk hb; have c0 := bc0 hbox; have cf0 := blk_frozen hbox 0; have c1 := bc1 hbox; have cf1 := blk_frozen hbox 1; have c2 := bc2 hbox; have cf2 := blk_frozen hbox 2;  clear hb hbox hg) | (go_at_call 57; (with_reducible refine (strconv_FormatUint.calls _ 16 u _ (HD.out.below HB.out) HU.out).mono ?_); rintro e w2 ⟨rfl, hb⟩; have BK2 := Aside0.mk (blk_below BK.out hb); have HB2 := Aside0.mk (below_step HB.out hb); clear c0 c1 c2; have c0 := bc0 BK2.out; have cf0 := blk_frozen BK2.out 0; have c1 := bc1 BK2.out; have cf1 := blk_frozen BK2.out 1; have c2 := bc2 BK2.out; have cf2 := blk_frozen BK2.out 2;  clear hb))
  have HBd := Aside0.mk (below_drew1 HB2.out)
  refine start_ (n := 12) (S := fun w' => w'.cell? ⟨g, 1, none⟩ = some (.string a0_1)) (ds := []) #[false, false, false, false, false, false, false, false, false, false, false, false] (by kernel_rfl) rfl rfl (c1) (fun hHeld => ?_)
  refine pure_ (i := 0) (N := some 86) (v := ?_) (a' := ?_) #[true, false, false, false, false, false, false, false, false, false, false, false] rfl rfl (by kernel_rfl) (fun _ _ _ h => h) (Or.inl ⟨by rfl, ?_⟩) ?_ ?_
  rotate_left
  ·
   intro w'
   go_simp
   with_reducible rfl
  rotate_left
  ·
   simp only [Act.put, List.setIfInBounds_toArray, List.set_cons_zero, List.set_cons_succ, i64_w, i32_w]
   rfl
  refine pure_ (i := 1) (N := some 87) (v := ?_) (a' := ?_) #[true, true, false, false, false, false, false, false, false, false, false, false] rfl rfl (by kernel_rfl) (fun _ _ _ h => h) (Or.inl ⟨by rfl, ?_⟩) ?_ ?_
  rotate_left
  ·
   intro w'
   go_simp
   with_reducible rfl
  rotate_left
  ·
   simp only [Act.put, List.setIfInBounds_toArray, List.set_cons_zero, List.set_cons_succ, i64_w, i32_w]
   rfl
  refine pure_ (i := 2) (N := some 88) (v := ?_) (a' := ?_) #[true, true, true, false, false, false, false, false, false, false, false, false] rfl rfl (by kernel_rfl) (fun _ _ _ h => h) (Or.inl ⟨by rfl, ?_⟩) ?_ ?_
  rotate_left
  ·
   intro w'
   go_simp
   with_reducible rfl
  rotate_left
  ·
   simp only [Act.put, List.setIfInBounds_toArray, List.set_cons_zero, List.set_cons_succ, i64_w, i32_w]
   rfl
  refine pure_ (i := 5) (N := some 91) (v := ?_) (a' := ?_) #[true, true, true, false, false, true, false, false, false, false, false, false] rfl rfl (by kernel_rfl) (fun _ _ _ h => h) (Or.inl ⟨by rfl, ?_⟩) ?_ ?_
  rotate_left
  ·
   intro w'
   go_simp
   with_reducible rfl
  rotate_left
  ·
   simp only [Act.put, List.setIfInBounds_toArray, List.set_cons_zero, List.set_cons_succ, i64_w, i32_w]
   rfl
  refine pure_ (i := 7) (N := some 93) (v := ?_) (a' := ?_) #[true, true, true, false, false, true, false, true, false, false, false, false] rfl rfl (by kernel_rfl) (fun _ _ _ h => h) (Or.inl ⟨by rfl, ?_⟩) ?_ ?_
  rotate_left
  ·
   intro w'
   go_simp
   with_reducible rfl
  rotate_left
  ·
   simp only [Act.put, List.setIfInBounds_toArray, List.set_cons_zero, List.set_cons_succ, i64_w, i32_w]
   rfl
  refine take_ (i := 8) (N := some 94) (v := ?_) (a' := ?_) #[true, true, true, false, false, true, false, true, true, false, false, false] rfl rfl (by kernel_rfl) (fun _ _ _ h => h) (Or.inl ⟨by rfl, ?_⟩) hHeld ?_ ?_
  rotate_left
  ·
   intro w' s0
   go_simp
   with_reducible rfl
  rotate_left
  ·
   simp only [Act.put, List.setIfInBounds_toArray, List.set_cons_zero, List.set_cons_succ, i64_w, i32_w]
   rfl
  refine pure_ (i := 9) (N := some 95) (v := ?_) (a' := ?_) #[true, true, true, false, false, true, false, true, true, true, false, false] rfl rfl (by kernel_rfl) (fun _ _ _ h => h) (Or.inl ⟨by rfl, ?_⟩) ?_ ?_
  rotate_left
  ·
   intro w'
   go_simp
   with_reducible rfl
  rotate_left
  ·
   simp only [Act.put, List.setIfInBounds_toArray, List.set_cons_zero, List.set_cons_succ, i64_w, i32_w]
   rfl
  refine one_ (i := 3) (N := some 89) #[true, true, true, true, false, true, false, true, true, true, false, false] rfl rfl (by kernel_rfl) (by decide) (fun K hK => ?_)
  refine goes_ Tryz.func58 (by kernel_rfl) rfl #[.string (⟨#[48]⟩ : ByteArray), .int .i64 (wrap64 (16 - (u.size : Int)))] (by rfl) rfl rfl (by simp only [List.map_toArray, List.map_cons, List.map_nil]; rfl) ?_
  with_reducible refine (strings_Repeat.calls _ _ z _ HZ.out).mono ?_
  rintro e w3 ⟨rfl, hb⟩
  refine ⟨_, rfl, ?_⟩
  have HB3 := Aside0.mk (below_step HBd.out hb)
  refine hK.out _ _ (((hb.cell (World.block_lt_of_cell? _ _ hHeld)).trans hHeld)) (fun hHeld => ?_)
  clear hK K
  refine norm_ (a' := ?_) ?_ ?_
  rotate_left
  ·
   show Act.put _ (some 89) _ = _
   simp only [Act.put, List.setIfInBounds_toArray, List.set_cons_zero, List.set_cons_succ, i64_w, i32_w]
   rfl
  refine pure_ (i := 4) (N := some 90) (v := ?_) (a' := ?_) #[true, true, true, true, true, true, false, true, true, true, false, false] rfl rfl (by kernel_rfl) (fun _ _ _ h => h) (Or.inl ⟨by rfl, ?_⟩) ?_ ?_
  rotate_left
  ·
   intro w'
   go_simp
   with_reducible rfl
  rotate_left
  ·
   simp only [Act.put, List.setIfInBounds_toArray, List.set_cons_zero, List.set_cons_succ, i64_w, i32_w]
   rfl
  refine pure_ (i := 6) (N := some 92) (v := ?_) (a' := ?_) #[true, true, true, true, true, true, true, true, true, true, false, false] rfl rfl (by kernel_rfl) (fun _ _ _ h => h) (Or.inl ⟨by rfl, ?_⟩) ?_ ?_
  rotate_left
  ·
   intro w'
   go_simp
   with_reducible rfl
  rotate_left
  ·
   simp only [Act.put, List.setIfInBounds_toArray, List.set_cons_zero, List.set_cons_succ, i64_w, i32_w]
   rfl
  refine pure_ (i := 10) (N := some 2) (v := ?_) (a' := ?_) #[true, true, true, true, true, true, true, true, true, true, true, false] rfl rfl (by kernel_rfl) (fun _ _ _ h => h) (Or.inl ⟨by rfl, ?_⟩) ?_ ?_
  rotate_left
  ·
   intro w'
   go_simp
   with_reducible rfl
  rotate_left
  ·
   simp only [Act.put, List.setIfInBounds_toArray, List.set_cons_zero, List.set_cons_succ, i64_w, i32_w]
   rfl
  refine pure_ (i := 11) (N := some 3) (v := ?_) (a' := ?_) #[true, true, true, true, true, true, true, true, true, true, true, true] rfl rfl (by kernel_rfl) (fun _ _ _ h => h) (Or.inl ⟨by rfl, ?_⟩) ?_ ?_
  rotate_left
  ·
   intro w'
   go_simp
   with_reducible rfl
  rotate_left
  ·
   simp only [Act.put, List.setIfInBounds_toArray, List.set_cons_zero, List.set_cons_succ, i64_w, i32_w]
   rfl
  refine done_ (by kernel_rfl) ?_
  go_wp2
  go_ret2
  exact ⟨by rw [← RR.out, R3.out]; first | rfl | (simp; done) | (simp [List.isEmpty_iff]; done), HB3.out⟩
set_option maxHeartbeats 8000000 in
set_option maxRecDepth 100000 in
theorem text_none (a0_0 : Int) (a0_1 : ByteArray) (a0_2 : Int) (r1 : ByteArray) (r2 : Bool) (w : World) (h1 : ¬ a0_0 = 1) (h4 : ¬ a0_0 = 4) (h3 : ¬ a0_0 = 3) (h2 : ¬ a0_0 = 2) (h : some ((⟨#[]⟩ : ByteArray), false) = some (r1, r2)) :
  Calls Tryz.prog 35 #[.agg #[.int .u8 a0_0, .string a0_1, .int .i64 a0_2]] w fun e w' => e = .returned (.tuple #[.string r1, .bool r2]) ∧ Below w.heap.size w w' := by
 cases h
 have k1 : (a0_0 == 1) = false := beq_eq_false_iff_ne.2 h1
 have k4 : (a0_0 == 4) = false := beq_eq_false_iff_ne.2 h4
 have k3 : (a0_0 == 3) = false := beq_eq_false_iff_ne.2 h3
 have k2 : (a0_0 == 2) = false := beq_eq_false_iff_ne.2 h2
 clear h1 h4 h3 h2
 go_enter Tryz.func35, Tryz.ntmps35
 go_wp2_with (first | ((with_reducible refine gate_dst (N := 1) rfl ?_); refine box_event ?hg (N := 1) ?hd (cs := #[.int .u8 a0_0, .string a0_1, .int .i64 a0_2]) (t := 61) ?hr ?_; (case hd => rfl); (case hg => rfl); (case hr => exact qav9); intro g hg w1 hbox hb; have BK := Aside0.mk hbox; have HB := Aside0.mk hb; have c0 := bc0 hbox; have cf0 := blk_frozen hbox 0; have c1 := bc1 hbox; have cf1 := blk_frozen hbox 1; have c2 := bc2 hbox; have cf2 := blk_frozen hbox 2;  clear hb hbox hg))
 go_ret2
 exact ⟨rfl, HB.out⟩
theorem lex_text.calls (k : Nat) (a0_0 : Int) (a0_1 : ByteArray) (a0_2 : Int) (r1 : ByteArray) (r2 : Bool) (w : World) (hT : Lib.TabIs Tryz.prog w "internal/strconv.uint64pow10" .u64 Lib.pow10Tab) (hD : LexW.LexD w) (h : lex_text.f k a0_0 a0_1 a0_2 = some (r1, r2)) :
  Calls Tryz.prog 35 #[.agg #[.int .u8 a0_0, .string a0_1, .int .i64 a0_2]] w fun e w' => e = .returned (.tuple #[.string r1, .bool r2]) ∧ Below w.heap.size w w' := by
 unfold lex_text.f at h
 by_cases c1 : a0_0 = 1
 ·
  rw [if_pos c1] at h
  subst c1
  exact text_word k a0_1 a0_2 r1 r2 w h
 rw [if_neg c1] at h
 by_cases c4 : a0_0 = 4
 ·
  rw [if_pos c4] at h
  subst c4
  exact text_mark a0_1 a0_2 r1 r2 w h
 rw [if_neg c4] at h
 by_cases c3 : a0_0 = 3
 ·
  rw [if_pos c3] at h
  subst c3
  exact text_shown a0_1 a0_2 r1 r2 w h
 rw [if_neg c3] at h
 by_cases c2 : a0_0 = 2
 ·
  rw [if_pos c2] at h
  subst c2
  have h' : lex_text.j0 k (decide (0 ≤ a0_2) && decide (a0_2 < 1000000000000000000)) 2 a0_1 a0_2 = some (r1, r2) := by
   by_cases n : a0_2 ≥ 0
   ·
    rw [if_pos n] at h
    rw [decide_eq_true (show 0 ≤ a0_2 from n)]
    exact h
   ·
    rw [if_neg n] at h
    rw [decide_eq_false (show ¬ 0 ≤ a0_2 from n)]
    exact h
  clear h
  obtain ⟨b, hb⟩ : ∃ b, b = (decide (0 ≤ a0_2) && decide (a0_2 < 1000000000000000000)) := ⟨_, rfl⟩
  rw [← hb] at h'
  cases k with
  | zero => cases h'
  | succ k =>
   rw [lex_text.j0] at h'
   cases b with
   | true =>
    rw [if_pos rfl] at h'
    obtain ⟨t, hi, h⟩ := Option.bind_eq_some_iff.1 h'
    simp only [Option.some.injEq, Prod.mk.injEq] at h
    have := hb.symm
    simp only [Bool.and_eq_true, decide_eq_true_eq] at this
    exact text_dec a0_1 a0_2 r1 r2 w hT hD this.1 this.2 (h.1 ▸ hi) h.2
   | false =>
    rw [if_neg (by simp)] at h'
    obtain ⟨u, hu, h⟩ := Option.bind_eq_some_iff.1 h'
    obtain ⟨z, hz, h⟩ := Option.bind_eq_some_iff.1 h
    by_cases z1 : 2 + z.size ≤ 9223372036854775807
    ·
     rw [if_pos z1] at h
     by_cases z2 : ((⟨#[48, 120]⟩ : ByteArray) ++ z).size + u.size ≤ 9223372036854775807
     ·
      rw [if_pos z2] at h
      simp only [Option.some.injEq, Prod.mk.injEq] at h
      exact text_hex a0_1 a0_2 r1 r2 w hT hD false hb rfl u z hu hz z1 z2 h.1.symm h.2
     ·
      rw [if_neg z2] at h
      cases h
    ·
     rw [if_neg z1] at h
     cases h
 rw [if_neg c2] at h
 exact text_none a0_0 a0_1 a0_2 r1 r2 w c1 c4 c3 c2 h

def lex_Check.f (k : Nat) (a0_0 : Int) (a0_1 : ByteArray) (a0_2 : Int) : Option (Int) := (lex_text.f k a0_0 a0_1 a0_2).bind fun bt135 => (if bt135.2 = true then (some 0) else (some 8))
theorem lex_Check.mono : ∀ a0 a1 a2 k, LeO (lex_Check.f k a0 a1 a2) (lex_Check.f (k + 1) a0 a1 a2) := by
 intro a0 a1 a2 k
 unfold lex_Check.f
 repeat' first
   | (with_reducible exact lex_text.mono _ _ _ _)
   | (with_reducible exact LeO.refl _)
   | (with_reducible exact LeO.none _)
   | (with_reducible refine LeO.ite ?_ ?_)
   | (with_reducible refine LeO.bind ?_ (fun _ => ?_))
   | exact lex_text.mono _ _ _ _
   | exact LeO.none _
   | refine LeO.ite ?_ ?_
   | refine LeO.bind ?_ (fun _ => ?_)
set_option maxHeartbeats 8000000 in
set_option maxRecDepth 100000 in
theorem lex_Check.calls (k : Nat) (a0_0 : Int) (a0_1 : ByteArray) (a0_2 : Int) (r : Int) (w : World) (hT : Lib.TabIs Tryz.prog w "internal/strconv.uint64pow10" .u64 Lib.pow10Tab) (hD : LexW.LexD w) (h : lex_Check.f k a0_0 a0_1 a0_2 = some r) :
  Calls Tryz.prog 49 #[.agg #[.int .u8 a0_0, .string a0_1, .int .i64 a0_2]] w fun e w' => e = .returned (.int .i64 r) ∧ Below w.heap.size w w' := by
 have hu61 := Tryz.underlying61
 have HT := Aside0.mk hT
 clear hT
 have HD_ := Aside0.mk hD
 clear hD
 have HB := Aside0.mk (Below.refl w.heap.size w)
 have H : ((lex_text.f k a0_0 a0_1 a0_2).bind fun bt135 => (if bt135.2 = true then (some 0) else (some 8))) = some r := h
 clear h
 replace H := Option.bind_eq_some_iff.mp H
 obtain ⟨⟨t135, t136⟩, A20, H⟩ := H
 replace H : (if t136 = true then (some 0) else (some 8)) = some r := H
 have A2 := Aside0.mk A20
 clear A20
 by_cases c3 : t136 = true
 ·
  subst c3
  have H1 : (some 0) = some r := by rw [if_pos rfl] at H; exact H
  clear H
  have H := H1
  clear H1
  obtain rfl := Option.some.inj H
  go_enter Tryz.func49, Tryz.ntmps49
  go_wp2_with (first | ((with_reducible refine gate_dst (N := 1) rfl ?_); refine box_event ?hg (N := 1) ?hd (cs := #[.int .u8 a0_0, .string a0_1, .int .i64 a0_2]) (t := 61) ?hr ?_; (case hd => rfl); (case hg => rfl); (case hr => exact qav9); intro gb134 hg w4 hbox hb; have n0_ := Aside0.mk (below_step qav6 hb); have n1_ := Aside0.mk (hbox); have n2_ := Aside0.mk ((by rw [hg]; exact (below_size qav6) : w.heap.size ≤ gb134)); have n3_ := Aside0.mk ((by rw [hg]; exact (below_size qav6) : w.heap.size ≤ gb134)); clear HB; have HB := n0_; have BK134 := n1_; have GW134 := n2_; have GE134 := n3_; clear n0_ n1_ n2_ n3_; clear hb hbox hg; have hcz5_0 := bc0 BK134.out; have hcz5_1 := bc1 BK134.out; have hcz5_2 := bc2 BK134.out; have hfz5_0 := blk_frozen BK134.out 0; have hfz5_1 := blk_frozen BK134.out 1; have hfz5_2 := blk_frozen BK134.out 2) | ((with_reducible refine gate_callee (f := 35) rfl ?_); refine goesL_ (some 7) rfl rfl Tryz.func35 (by kernel_rfl) rfl #[.agg #[.int .u8 a0_0, .string a0_1, .int .i64 a0_2]] rfl qav5 ?_; (with_reducible refine (lex_text.calls k a0_0 a0_1 a0_2 t135 true _ ?side1 ?side2 A2.out).mono ?_); (case side1 => exact qav0); (case side2 => exact qav1); rintro e w6 ⟨rfl, hb⟩; refine ⟨_, rfl, ?_⟩; have n0_ := Aside0.mk (blk_below (g := gb134) (o := .cells #[.int .u8 a0_0, .string a0_1, .int .i64 a0_2] 61 (0, 0)) qav7 hb); have n1_ := Aside0.mk (below_step qav3 hb); clear BK134; clear HB; have BK134 := n0_; have HB := n1_; clear n0_ n1_; (try clear hb); (try clear hb2); (try clear hk); (try clear hi)))
  go_ret
  exact ⟨by first | rfl | (simp [errW_none, errW_some] <;> rfl) | (simp [*, errW_none, errW_some] <;> rfl), by repeat (first | (with_reducible first | exact HB.out | apply below_alloc | apply pw_below_drewN | apply below_drew1 | refine below_set ?_ GE134.out) | exact HB.out)⟩
 ·
  replace c3 := Bool.eq_false_iff.mpr c3
  subst c3
  have H1 : (some 8) = some r := by rw [if_neg (show ¬ (false = true) by decide)] at H; exact H
  clear H
  have H := H1
  clear H1
  obtain rfl := Option.some.inj H
  go_enter Tryz.func49, Tryz.ntmps49
  go_wp2_with (first | ((with_reducible refine gate_dst (N := 1) rfl ?_); refine box_event ?hg (N := 1) ?hd (cs := #[.int .u8 a0_0, .string a0_1, .int .i64 a0_2]) (t := 61) ?hr ?_; (case hd => rfl); (case hg => rfl); (case hr => exact qav9); intro gb134 hg w7 hbox hb; have n0_ := Aside0.mk (below_step qav6 hb); have n1_ := Aside0.mk (hbox); have n2_ := Aside0.mk ((by rw [hg]; exact (below_size qav6) : w.heap.size ≤ gb134)); have n3_ := Aside0.mk ((by rw [hg]; exact (below_size qav6) : w.heap.size ≤ gb134)); clear HB; have HB := n0_; have BK134 := n1_; have GW134 := n2_; have GE134 := n3_; clear n0_ n1_ n2_ n3_; clear hb hbox hg; have hcz8_0 := bc0 BK134.out; have hcz8_1 := bc1 BK134.out; have hcz8_2 := bc2 BK134.out; have hfz8_0 := blk_frozen BK134.out 0; have hfz8_1 := blk_frozen BK134.out 1; have hfz8_2 := blk_frozen BK134.out 2) | ((with_reducible refine gate_callee (f := 35) rfl ?_); refine goesL_ (some 7) rfl rfl Tryz.func35 (by kernel_rfl) rfl #[.agg #[.int .u8 a0_0, .string a0_1, .int .i64 a0_2]] rfl qav5 ?_; (with_reducible refine (lex_text.calls k a0_0 a0_1 a0_2 t135 false _ ?side1 ?side2 A2.out).mono ?_); (case side1 => exact qav0); (case side2 => exact qav1); rintro e w9 ⟨rfl, hb⟩; refine ⟨_, rfl, ?_⟩; have n0_ := Aside0.mk (blk_below (g := gb134) (o := .cells #[.int .u8 a0_0, .string a0_1, .int .i64 a0_2] 61 (0, 0)) qav7 hb); have n1_ := Aside0.mk (below_step qav3 hb); clear BK134; clear HB; have BK134 := n0_; have HB := n1_; clear n0_ n1_; (try clear hb); (try clear hb2); (try clear hk); (try clear hi)))
  go_ret
  exact ⟨by first | rfl | (simp [errW_none, errW_some] <;> rfl) | (simp [*, errW_none, errW_some] <;> rfl), by repeat (first | (with_reducible first | exact HB.out | apply below_alloc | apply pw_below_drewN | apply below_drew1 | refine below_set ?_ GE134.out) | exact HB.out)⟩

def line_name.f (k : Nat) (a0 : ByteArray) : Option (Bool) := (line_word.f a0).bind fun bt137 => ((lex_Check.f k bt137.1 bt137.2.1 bt137.2.2).bind fun t140 => (if t140 = 0 then ((line_word.f a0).bind fun bt141 => ((line_plain.f bt141.1 bt141.2.1 bt141.2.2).bind fun t144 => (some t144))) else (some false)))
theorem line_name.mono : ∀ a0 k, LeO (line_name.f k a0) (line_name.f (k + 1) a0) := by
 intro a0 k
 unfold line_name.f
 repeat' first
   | (with_reducible exact lex_Check.mono _ _ _ _)
   | (with_reducible exact LeO.refl _)
   | (with_reducible exact LeO.none _)
   | (with_reducible refine LeO.ite ?_ ?_)
   | (with_reducible refine LeO.bind ?_ (fun _ => ?_))
   | exact lex_Check.mono _ _ _ _
   | exact LeO.none _
   | refine LeO.ite ?_ ?_
   | refine LeO.bind ?_ (fun _ => ?_)
set_option maxHeartbeats 8000000 in
set_option maxRecDepth 100000 in
theorem line_name.calls (k : Nat) (a0 : ByteArray) (r : Bool) (w : World) (hT : Lib.TabIs Tryz.prog w "internal/strconv.uint64pow10" .u64 Lib.pow10Tab) (hD : LexW.LexD w) (h : line_name.f k a0 = some r) :
  Calls Tryz.prog 33 #[.string a0] w fun e w' => e = .returned (.bool r) ∧ Below w.heap.size w w' := by
 have HT := Aside0.mk hT
 clear hT
 have HD_ := Aside0.mk hD
 clear hD
 have HB := Aside0.mk (Below.refl w.heap.size w)
 have H : ((line_word.f a0).bind fun bt137 => ((lex_Check.f k bt137.1 bt137.2.1 bt137.2.2).bind fun t140 => (if t140 = 0 then ((line_word.f a0).bind fun bt141 => ((line_plain.f bt141.1 bt141.2.1 bt141.2.2).bind fun t144 => (some t144))) else (some false)))) = some r := h
 clear h
 replace H := Option.bind_eq_some_iff.mp H
 obtain ⟨⟨t137, t138, t139⟩, A20, H⟩ := H
 replace H : ((lex_Check.f k t137 t138 t139).bind fun t140 => (if t140 = 0 then ((line_word.f a0).bind fun bt141 => ((line_plain.f bt141.1 bt141.2.1 bt141.2.2).bind fun t144 => (some t144))) else (some false))) = some r := H
 have A2 := Aside0.mk A20
 clear A20
 replace H := Option.bind_eq_some_iff.mp H
 obtain ⟨t140, A30, H⟩ := H
 replace H : (if t140 = 0 then ((line_word.f a0).bind fun bt141 => ((line_plain.f bt141.1 bt141.2.1 bt141.2.2).bind fun t144 => (some t144))) else (some false)) = some r := H
 have A3 := Aside0.mk A30
 clear A30
 by_cases c4 : t140 = 0
 ·
  rw [if_pos c4] at H
  have c4b0 : (t140 == 0) = true := beq_iff_eq.mpr c4
  have c4b1 : (t140 != 0) = false := bne_eq_false_iff_eq.mpr c4
  clear c4
  replace H := Option.bind_eq_some_iff.mp H
  obtain ⟨⟨t141, t142, t143⟩, A50, H⟩ := H
  replace H : ((line_plain.f t141 t142 t143).bind fun t144 => (some t144)) = some r := H
  have A5 := Aside0.mk A50
  clear A50
  replace H := Option.bind_eq_some_iff.mp H
  obtain ⟨t144, A60, H⟩ := H
  replace H : (some t144) = some r := H
  have A6 := Aside0.mk A60
  clear A60
  obtain rfl := Option.some.inj H
  go_enter Tryz.func33, Tryz.ntmps33
  go_wp2_with (first | ((with_reducible refine gate_callee (f := 32) rfl ?_); refine goesL_ (some 4) rfl rfl Tryz.func32 (by kernel_rfl) rfl #[.string a0] rfl qav5 ?_; (with_reducible refine (line_word.calls a0 t137 t138 t139 _ A2.out).mono ?_); rintro e w7 ⟨rfl, hb⟩; refine ⟨_, rfl, ?_⟩; have n0_ := Aside0.mk (below_step qav6 hb); clear HB; have HB := n0_; clear n0_; (try clear hb); (try clear hb2); (try clear hk); (try clear hi)) | ((with_reducible refine gate_callee (f := 49) rfl ?_); refine goesL_ (some 5) rfl rfl Tryz.func49 (by kernel_rfl) rfl #[.agg #[.int .u8 t137, .string t138, .int .i64 t139]] rfl qav5 ?_; (with_reducible refine (lex_Check.calls k t137 t138 t139 t140 _ ?side1 ?side2 A3.out).mono ?_); (case side1 => exact qav2); (case side2 => exact qav4); rintro e w8 ⟨rfl, hb⟩; refine ⟨_, rfl, ?_⟩; have n0_ := Aside0.mk (below_step qav6 hb); clear HB; have HB := n0_; clear n0_; (try clear hb); (try clear hb2); (try clear hk); (try clear hi)) | (go_at_call 32; (with_reducible refine (line_word.calls a0 t141 t142 t143 _ A5.out).mono ?_); rintro e w9 ⟨rfl, hb⟩; have n0_ := Aside0.mk (below_step qav6 hb); clear HB; have HB := n0_; clear n0_; (try clear hb); (try clear hb2); (try clear hk); (try clear hi)) | (go_at_call 28; (with_reducible refine (line_plain.calls t141 t142 t143 t144 _ A6.out).mono ?_); rintro e w10 ⟨rfl, hb⟩; have n0_ := Aside0.mk (below_step qav6 hb); clear HB; have HB := n0_; clear n0_; (try clear hb); (try clear hb2); (try clear hk); (try clear hi)))
  go_ret
  exact ⟨by first | rfl | (simp [errW_none, errW_some] <;> rfl) | (simp [*, errW_none, errW_some] <;> rfl), by repeat (first | (with_reducible first | exact HB.out | apply below_alloc | apply pw_below_drewN | apply below_drew1) | exact HB.out)⟩
 ·
  rw [if_neg c4] at H
  have c4b0 : (t140 == 0) = false := beq_eq_false_iff_ne.mpr c4
  have c4b1 : (t140 != 0) = true := bne_iff_ne.mpr c4
  obtain rfl := Option.some.inj H
  go_enter Tryz.func33, Tryz.ntmps33
  go_wp2_with (first | ((with_reducible refine gate_callee (f := 32) rfl ?_); refine goesL_ (some 4) rfl rfl Tryz.func32 (by kernel_rfl) rfl #[.string a0] rfl qav5 ?_; (with_reducible refine (line_word.calls a0 t137 t138 t139 _ A2.out).mono ?_); rintro e w11 ⟨rfl, hb⟩; refine ⟨_, rfl, ?_⟩; have n0_ := Aside0.mk (below_step qav6 hb); clear HB; have HB := n0_; clear n0_; (try clear hb); (try clear hb2); (try clear hk); (try clear hi)) | ((with_reducible refine gate_callee (f := 49) rfl ?_); refine goesL_ (some 5) rfl rfl Tryz.func49 (by kernel_rfl) rfl #[.agg #[.int .u8 t137, .string t138, .int .i64 t139]] rfl qav5 ?_; (with_reducible refine (lex_Check.calls k t137 t138 t139 t140 _ ?side1 ?side2 A3.out).mono ?_); (case side1 => exact qav2); (case side2 => exact qav4); rintro e w12 ⟨rfl, hb⟩; refine ⟨_, rfl, ?_⟩; have n0_ := Aside0.mk (below_step qav6 hb); clear HB; have HB := n0_; clear n0_; (try clear hb); (try clear hb2); (try clear hk); (try clear hi)))
  go_ret
  exact ⟨by first | rfl | (simp [errW_none, errW_some] <;> rfl) | (simp [*, errW_none, errW_some] <;> rfl), by repeat (first | (with_reducible first | exact HB.out | apply below_alloc | apply pw_below_drewN | apply below_drew1) | exact HB.out)⟩

end Go.Proofs.YtbfndlfemhidaaaGreatDoor.P
