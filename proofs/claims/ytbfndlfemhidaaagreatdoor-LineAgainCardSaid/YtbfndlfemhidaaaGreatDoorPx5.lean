/- Texts of this seat in one (Px5), what nothing speaks of left out: by pack.py, a program of this session. -/
import Derived.Test.YtbfndlfemhidaaaGreatDoorPx0
import Derived.Test.YtbfndlfemhidaaaGreatDoorPx3
import Derived.Test.YtbfndlfemhidaaaGreatDoorPx4
namespace Go.Proofs.YtbfndlfemhidaaaGreatDoor.P
open Go.RowKit Go.Proofs.YtbfndlfemhidaaaGreatDoor.LexP Go.Proofs.YtbfndlfemhidaaaGreatDoorW.PrintWords Go.Proofs.YtbfndlfemhidaaaGreatDoorW.PrintLast Go.Proofs.YtbfndlfemhidaaaGreatDoorW.PrintMore
theorem qax11 {P : Prop} (h : P := by first | (go_simp; done) | (go_simp; rfl)) : P := h
theorem qax10 {P : Prop} (h : P := by first | (with_reducible assumption) | assumption) : P := h
theorem qax9 {P : Prop} (h : P := by (with_reducible repeat (first | refine blk_drewN ?_ _ | refine blk_drew ?_ | refine blk_alloc ?_ _)); exact BK167.out) : P := h
theorem qax8 {P : Prop} (h : P := by (with_reducible repeat (first | refine blk_drewN ?_ _ | refine blk_drew ?_ | refine blk_alloc ?_ _)); exact BK163.out) : P := h
theorem qax7 {P : Prop} (h : P := by repeat (first | (with_reducible first | exact HB.out | apply below_alloc | apply pw_below_drewN | apply below_drew1) | exact HB.out)) : P := h
theorem qax6 {P : Prop} (h : P := by (try simp only [List.map_toArray, List.map_cons, List.map_nil]); first | done | rfl | (simp only [List.length_drop, List.length_take]; rfl)) : P := h
theorem qax5 {P : Prop} (h : P := by repeat (first | (with_reducible first | exact HB.out | apply below_alloc | apply pw_below_drewN | apply below_drew1 | refine below_set ?_ GE167.out) | exact HB.out)) : P := h
theorem qax4 {P : Prop} (h : P := by repeat (first | (with_reducible first | exact HB.out | apply below_alloc | apply pw_below_drewN | apply below_drew1 | refine below_set ?_ GE163.out) | exact HB.out)) : P := h
theorem qax3 {P : Prop} (h : P := by exact HG_.out.below qax5) : P := h
theorem qax2 {P : Prop} (h : P := by exact HD_.out.below qax4) : P := h
theorem qax1 {P : Prop} (h : P := by exact Lib.tabBelow_of_tabIs HT.out _ qax5) : P := h
theorem qax0 {P : Prop} (h : P := by exact Lib.tabBelow_of_tabIs HT.out _ qax4) : P := h
attribute [local go_sem] max2_int min2_int max_two min_two max_three min_three max_four min_four   -- for this text's walks alone
set_option linter.unusedVariables false
set_option linter.unusedSimpArgs false

def expr_Check.f (k : Nat) (a0_0 : ByteArray) (a0_1 : ByteArray) (a0_2 : Int) (a0_3 : Int) : Option (Int) := if a0_0.toList = ([] : List UInt8) then (if a0_1.toList = ([] : List UInt8) then (if (wrap64 (a0_3)) > 4 then (some 8) else (some 0)) else (some 8)) else ((expr_word.f k a0_0).bind fun t164 => (if t164 = true then (if a0_1.toList = ([] : List UInt8) then (if (wrap64 (a0_3)) > 4 then (some 8) else (some 0)) else ((expr_word.f k a0_1).bind fun t165 => (if t165 = true then (if (wrap64 (a0_3)) > 4 then (some 8) else (some 0)) else (some 8)))) else (some 8)))
set_option maxHeartbeats 8000000 in
set_option maxRecDepth 100000 in
theorem expr_Check.calls (k : Nat) (a0_0 : ByteArray) (a0_1 : ByteArray) (a0_2 : Int) (a0_3 : Int) (r : Int) (w : World) (hT : Lib.TabIs Tryz.prog w "internal/strconv.uint64pow10" .u64 Lib.pow10Tab) (hD : LexW.LexD w) (h : expr_Check.f k a0_0 a0_1 a0_2 a0_3 = some r) :
  Calls Tryz.prog 85 #[.agg #[.string a0_0, .string a0_1, .int .i64 a0_2, .int .u8 a0_3]] w fun e w' => e = .returned (.int .i64 r) ∧ Below w.heap.size w w' := by
 have hu38 := Tryz.underlying38
 have HT := Aside0.mk hT
 clear hT
 have HD_ := Aside0.mk hD
 clear hD
 have HB := Aside0.mk (Below.refl w.heap.size w)
 have H : (if a0_0.toList = ([] : List UInt8) then (if a0_1.toList = ([] : List UInt8) then (if (wrap64 (a0_3)) > 4 then (some 8) else (some 0)) else (some 8)) else ((expr_word.f k a0_0).bind fun t164 => (if t164 = true then (if a0_1.toList = ([] : List UInt8) then (if (wrap64 (a0_3)) > 4 then (some 8) else (some 0)) else ((expr_word.f k a0_1).bind fun t165 => (if t165 = true then (if (wrap64 (a0_3)) > 4 then (some 8) else (some 0)) else (some 8)))) else (some 8)))) = some r := h
 clear h
 by_cases c2 : a0_0.toList = ([] : List UInt8)
 ·
  rw [if_pos c2] at H
  have c2b0 : (a0_0.toList == ([] : List UInt8)) = true := beq_iff_eq.mpr c2
  have c2b1 : (a0_0.toList != ([] : List UInt8)) = false := bne_eq_false_iff_eq.mpr c2
  clear c2
  by_cases c3 : a0_1.toList = ([] : List UInt8)
  ·
   rw [if_pos c3] at H
   have c3b0 : (a0_1.toList == ([] : List UInt8)) = true := beq_iff_eq.mpr c3
   have c3b1 : (a0_1.toList != ([] : List UInt8)) = false := bne_eq_false_iff_eq.mpr c3
   clear c3
   by_cases c4 : (wrap64 (a0_3)) > 4
   ·
    rw [if_pos c4] at H
    have c4b0 : decide (4 < (wrap64 (a0_3))) = true := decide_eq_true c4
    clear c4
    obtain rfl := Option.some.inj H
    go_enter Tryz.func85, Tryz.ntmps85
    go_wp2_with (first | ((with_reducible refine gate_dst (N := 1) rfl ?_); refine box_event ?hg (N := 1) ?hd (cs := #[.string a0_0, .string a0_1, .int .i64 a0_2, .int .u8 a0_3]) (t := 38) ?hr ?_; (case hd => rfl); (case hg => rfl); (case hr => exact qax11); intro gb163 hg w5 hbox hb; have n0_ := Aside0.mk (below_step qax7 hb); have n1_ := Aside0.mk (hbox); have n2_ := Aside0.mk ((by rw [hg]; exact (below_size qax7) : w.heap.size ≤ gb163)); have n3_ := Aside0.mk ((by rw [hg]; exact (below_size qax7) : w.heap.size ≤ gb163)); clear HB; have HB := n0_; have BK163 := n1_; have GW163 := n2_; have GE163 := n3_; clear n0_ n1_ n2_ n3_; clear hb hbox hg; have hcz6_0 := bc0 BK163.out; have hcz6_1 := bc1 BK163.out; have hcz6_2 := bc2 BK163.out; have hcz6_3 := bc3 BK163.out; have hfz6_0 := blk_frozen BK163.out 0; have hfz6_1 := blk_frozen BK163.out 1; have hfz6_2 := blk_frozen BK163.out 2; have hfz6_3 := blk_frozen BK163.out 3))
    go_ret
    exact ⟨by first | rfl | (simp [errW_none, errW_some] <;> rfl) | (simp [*, errW_none, errW_some] <;> rfl), by repeat (first | (with_reducible first | exact HB.out | apply below_alloc | apply pw_below_drewN | apply below_drew1 | refine below_set ?_ GE163.out) | exact HB.out)⟩
   ·
    rw [if_neg c4] at H
    have c4b0 : decide (4 < (wrap64 (a0_3))) = false := decide_eq_false c4
    clear c4
    obtain rfl := Option.some.inj H
    go_enter Tryz.func85, Tryz.ntmps85
    go_wp2_with (first | ((with_reducible refine gate_dst (N := 1) rfl ?_); refine box_event ?hg (N := 1) ?hd (cs := #[.string a0_0, .string a0_1, .int .i64 a0_2, .int .u8 a0_3]) (t := 38) ?hr ?_; (case hd => rfl); (case hg => rfl); (case hr => exact qax11); intro gb163 hg w7 hbox hb; have n0_ := Aside0.mk (below_step qax7 hb); have n1_ := Aside0.mk (hbox); have n2_ := Aside0.mk ((by rw [hg]; exact (below_size qax7) : w.heap.size ≤ gb163)); have n3_ := Aside0.mk ((by rw [hg]; exact (below_size qax7) : w.heap.size ≤ gb163)); clear HB; have HB := n0_; have BK163 := n1_; have GW163 := n2_; have GE163 := n3_; clear n0_ n1_ n2_ n3_; clear hb hbox hg; have hcz8_0 := bc0 BK163.out; have hcz8_1 := bc1 BK163.out; have hcz8_2 := bc2 BK163.out; have hcz8_3 := bc3 BK163.out; have hfz8_0 := blk_frozen BK163.out 0; have hfz8_1 := blk_frozen BK163.out 1; have hfz8_2 := blk_frozen BK163.out 2; have hfz8_3 := blk_frozen BK163.out 3))
    go_ret
    exact ⟨by first | rfl | (simp [errW_none, errW_some] <;> rfl) | (simp [*, errW_none, errW_some] <;> rfl), by repeat (first | (with_reducible first | exact HB.out | apply below_alloc | apply pw_below_drewN | apply below_drew1 | refine below_set ?_ GE163.out) | exact HB.out)⟩
  ·
   rw [if_neg c3] at H
   have c3b0 : (a0_1.toList == ([] : List UInt8)) = false := beq_eq_false_iff_ne.mpr c3
   have c3b1 : (a0_1.toList != ([] : List UInt8)) = true := bne_iff_ne.mpr c3
   obtain rfl := Option.some.inj H
   go_enter Tryz.func85, Tryz.ntmps85
   go_wp2_with (first | ((with_reducible refine gate_dst (N := 1) rfl ?_); refine box_event ?hg (N := 1) ?hd (cs := #[.string a0_0, .string a0_1, .int .i64 a0_2, .int .u8 a0_3]) (t := 38) ?hr ?_; (case hd => rfl); (case hg => rfl); (case hr => exact qax11); intro gb163 hg w9 hbox hb; have n0_ := Aside0.mk (below_step qax7 hb); have n1_ := Aside0.mk (hbox); have n2_ := Aside0.mk ((by rw [hg]; exact (below_size qax7) : w.heap.size ≤ gb163)); have n3_ := Aside0.mk ((by rw [hg]; exact (below_size qax7) : w.heap.size ≤ gb163)); clear HB; have HB := n0_; have BK163 := n1_; have GW163 := n2_; have GE163 := n3_; clear n0_ n1_ n2_ n3_; clear hb hbox hg; have hcz10_0 := bc0 BK163.out; have hcz10_1 := bc1 BK163.out; have hcz10_2 := bc2 BK163.out; have hcz10_3 := bc3 BK163.out; have hfz10_0 := blk_frozen BK163.out 0; have hfz10_1 := blk_frozen BK163.out 1; have hfz10_2 := blk_frozen BK163.out 2; have hfz10_3 := blk_frozen BK163.out 3))
   go_ret
   exact ⟨by first | rfl | (simp [errW_none, errW_some] <;> rfl) | (simp [*, errW_none, errW_some] <;> rfl), by repeat (first | (with_reducible first | exact HB.out | apply below_alloc | apply pw_below_drewN | apply below_drew1 | refine below_set ?_ GE163.out) | exact HB.out)⟩
 ·
  rw [if_neg c2] at H
  have c2b0 : (a0_0.toList == ([] : List UInt8)) = false := beq_eq_false_iff_ne.mpr c2
  have c2b1 : (a0_0.toList != ([] : List UInt8)) = true := bne_iff_ne.mpr c2
  replace H := Option.bind_eq_some_iff.mp H
  obtain ⟨t164, A110, H⟩ := H
  replace H : (if t164 = true then (if a0_1.toList = ([] : List UInt8) then (if (wrap64 (a0_3)) > 4 then (some 8) else (some 0)) else ((expr_word.f k a0_1).bind fun t165 => (if t165 = true then (if (wrap64 (a0_3)) > 4 then (some 8) else (some 0)) else (some 8)))) else (some 8)) = some r := H
  have A11 := Aside0.mk A110
  clear A110
  by_cases c12 : t164 = true
  ·
   subst c12
   have H1 : (if a0_1.toList = ([] : List UInt8) then (if (wrap64 (a0_3)) > 4 then (some 8) else (some 0)) else ((expr_word.f k a0_1).bind fun t165 => (if t165 = true then (if (wrap64 (a0_3)) > 4 then (some 8) else (some 0)) else (some 8)))) = some r := by rw [if_pos rfl] at H; exact H
   clear H
   have H := H1
   clear H1
   by_cases c13 : a0_1.toList = ([] : List UInt8)
   ·
    rw [if_pos c13] at H
    have c13b0 : (a0_1.toList == ([] : List UInt8)) = true := beq_iff_eq.mpr c13
    have c13b1 : (a0_1.toList != ([] : List UInt8)) = false := bne_eq_false_iff_eq.mpr c13
    clear c13
    by_cases c14 : (wrap64 (a0_3)) > 4
    ·
     rw [if_pos c14] at H
     have c14b0 : decide (4 < (wrap64 (a0_3))) = true := decide_eq_true c14
     clear c14
     obtain rfl := Option.some.inj H
     go_enter Tryz.func85, Tryz.ntmps85
     go_wp2_with (first | ((with_reducible refine gate_dst (N := 1) rfl ?_); refine box_event ?hg (N := 1) ?hd (cs := #[.string a0_0, .string a0_1, .int .i64 a0_2, .int .u8 a0_3]) (t := 38) ?hr ?_; (case hd => rfl); (case hg => rfl); (case hr => exact qax11); intro gb163 hg w15 hbox hb; have n0_ := Aside0.mk (below_step qax7 hb); have n1_ := Aside0.mk (hbox); have n2_ := Aside0.mk ((by rw [hg]; exact (below_size qax7) : w.heap.size ≤ gb163)); have n3_ := Aside0.mk ((by rw [hg]; exact (below_size qax7) : w.heap.size ≤ gb163)); clear HB; have HB := n0_; have BK163 := n1_; have GW163 := n2_; have GE163 := n3_; clear n0_ n1_ n2_ n3_; clear hb hbox hg; have hcz16_0 := bc0 BK163.out; have hcz16_1 := bc1 BK163.out; have hcz16_2 := bc2 BK163.out; have hcz16_3 := bc3 BK163.out; have hfz16_0 := blk_frozen BK163.out 0; have hfz16_1 := blk_frozen BK163.out 1; have hfz16_2 := blk_frozen BK163.out 2; have hfz16_3 := blk_frozen BK163.out 3) | (go_at_call 119; (with_reducible refine (expr_word.calls k a0_0 true _ ?side1 ?side2 A11.out).mono ?_); (case side1 => exact qax0); (case side2 => exact qax2); rintro e w17 ⟨rfl, hb⟩; have n0_ := Aside0.mk (blk_below (g := gb163) (o := .cells #[.string a0_0, .string a0_1, .int .i64 a0_2, .int .u8 a0_3] 38 (0, 0)) qax8 hb); have n1_ := Aside0.mk (below_step qax4 hb); clear BK163; clear HB; have BK163 := n0_; have HB := n1_; clear n0_ n1_; (try clear hb); (try clear hb2); (try clear hk); (try clear hi); have hcz18_0 := bc0 BK163.out; have hcz18_1 := bc1 BK163.out; have hcz18_2 := bc2 BK163.out; have hcz18_3 := bc3 BK163.out; have hfz18_0 := blk_frozen BK163.out 0; have hfz18_1 := blk_frozen BK163.out 1; have hfz18_2 := blk_frozen BK163.out 2; have hfz18_3 := blk_frozen BK163.out 3))
     go_ret
     exact ⟨by first | rfl | (simp [errW_none, errW_some] <;> rfl) | (simp [*, errW_none, errW_some] <;> rfl), by repeat (first | (with_reducible first | exact HB.out | apply below_alloc | apply pw_below_drewN | apply below_drew1 | refine below_set ?_ GE163.out) | exact HB.out)⟩
    ·
     rw [if_neg c14] at H
     have c14b0 : decide (4 < (wrap64 (a0_3))) = false := decide_eq_false c14
     clear c14
     obtain rfl := Option.some.inj H
     go_enter Tryz.func85, Tryz.ntmps85
     go_wp2_with (first | ((with_reducible refine gate_dst (N := 1) rfl ?_); refine box_event ?hg (N := 1) ?hd (cs := #[.string a0_0, .string a0_1, .int .i64 a0_2, .int .u8 a0_3]) (t := 38) ?hr ?_; (case hd => rfl); (case hg => rfl); (case hr => exact qax11); intro gb163 hg w19 hbox hb; have n0_ := Aside0.mk (below_step qax7 hb); have n1_ := Aside0.mk (hbox); have n2_ := Aside0.mk ((by rw [hg]; exact (below_size qax7) : w.heap.size ≤ gb163)); have n3_ := Aside0.mk ((by rw [hg]; exact (below_size qax7) : w.heap.size ≤ gb163)); clear HB; have HB := n0_; have BK163 := n1_; have GW163 := n2_; have GE163 := n3_; clear n0_ n1_ n2_ n3_; clear hb hbox hg; have hcz20_0 := bc0 BK163.out; have hcz20_1 := bc1 BK163.out; have hcz20_2 := bc2 BK163.out; have hcz20_3 := bc3 BK163.out; have hfz20_0 := blk_frozen BK163.out 0; have hfz20_1 := blk_frozen BK163.out 1; have hfz20_2 := blk_frozen BK163.out 2; have hfz20_3 := blk_frozen BK163.out 3) | (go_at_call 119; (with_reducible refine (expr_word.calls k a0_0 true _ ?side1 ?side2 A11.out).mono ?_); (case side1 => exact qax0); (case side2 => exact qax2); rintro e w21 ⟨rfl, hb⟩; have n0_ := Aside0.mk (blk_below (g := gb163) (o := .cells #[.string a0_0, .string a0_1, .int .i64 a0_2, .int .u8 a0_3] 38 (0, 0)) qax8 hb); have n1_ := Aside0.mk (below_step qax4 hb); clear BK163; clear HB; have BK163 := n0_; have HB := n1_; clear n0_ n1_; (try clear hb); (try clear hb2); (try clear hk); (try clear hi); have hcz22_0 := bc0 BK163.out; have hcz22_1 := bc1 BK163.out; have hcz22_2 := bc2 BK163.out; have hcz22_3 := bc3 BK163.out; have hfz22_0 := blk_frozen BK163.out 0; have hfz22_1 := blk_frozen BK163.out 1; have hfz22_2 := blk_frozen BK163.out 2; have hfz22_3 := blk_frozen BK163.out 3))
     go_ret
     exact ⟨by first | rfl | (simp [errW_none, errW_some] <;> rfl) | (simp [*, errW_none, errW_some] <;> rfl), by repeat (first | (with_reducible first | exact HB.out | apply below_alloc | apply pw_below_drewN | apply below_drew1 | refine below_set ?_ GE163.out) | exact HB.out)⟩
   ·
    rw [if_neg c13] at H
    have c13b0 : (a0_1.toList == ([] : List UInt8)) = false := beq_eq_false_iff_ne.mpr c13
    have c13b1 : (a0_1.toList != ([] : List UInt8)) = true := bne_iff_ne.mpr c13
    replace H := Option.bind_eq_some_iff.mp H
    obtain ⟨t165, A230, H⟩ := H
    replace H : (if t165 = true then (if (wrap64 (a0_3)) > 4 then (some 8) else (some 0)) else (some 8)) = some r := H
    have A23 := Aside0.mk A230
    clear A230
    by_cases c24 : t165 = true
    ·
     subst c24
     have H1 : (if (wrap64 (a0_3)) > 4 then (some 8) else (some 0)) = some r := by rw [if_pos rfl] at H; exact H
     clear H
     have H := H1
     clear H1
     by_cases c25 : (wrap64 (a0_3)) > 4
     ·
      rw [if_pos c25] at H
      have c25b0 : decide (4 < (wrap64 (a0_3))) = true := decide_eq_true c25
      clear c25
      obtain rfl := Option.some.inj H
      go_enter Tryz.func85, Tryz.ntmps85
      go_wp2_with (first | ((with_reducible refine gate_dst (N := 1) rfl ?_); refine box_event ?hg (N := 1) ?hd (cs := #[.string a0_0, .string a0_1, .int .i64 a0_2, .int .u8 a0_3]) (t := 38) ?hr ?_; (case hd => rfl); (case hg => rfl); (case hr => exact qax11); intro gb163 hg w26 hbox hb; have n0_ := Aside0.mk (below_step qax7 hb); have n1_ := Aside0.mk (hbox); have n2_ := Aside0.mk ((by rw [hg]; exact (below_size qax7) : w.heap.size ≤ gb163)); have n3_ := Aside0.mk ((by rw [hg]; exact (below_size qax7) : w.heap.size ≤ gb163)); clear HB; have HB := n0_; have BK163 := n1_; have GW163 := n2_; have GE163 := n3_; clear n0_ n1_ n2_ n3_; clear hb hbox hg; have hcz27_0 := bc0 BK163.out; have hcz27_1 := bc1 BK163.out; have hcz27_2 := bc2 BK163.out; have hcz27_3 := bc3 BK163.out; have hfz27_0 := blk_frozen BK163.out 0; have hfz27_1 := blk_frozen BK163.out 1; have hfz27_2 := blk_frozen BK163.out 2; have hfz27_3 := blk_frozen BK163.out 3) | (go_at_call 119; (with_reducible refine (expr_word.calls k a0_0 true _ ?side1 ?side2 A11.out).mono ?_); (case side1 => exact qax0); (case side2 => exact qax2); rintro e w28 ⟨rfl, hb⟩; have n0_ := Aside0.mk (blk_below (g := gb163) (o := .cells #[.string a0_0, .string a0_1, .int .i64 a0_2, .int .u8 a0_3] 38 (0, 0)) qax8 hb); have n1_ := Aside0.mk (below_step qax4 hb); clear BK163; clear HB; have BK163 := n0_; have HB := n1_; clear n0_ n1_; (try clear hb); (try clear hb2); (try clear hk); (try clear hi); have hcz29_0 := bc0 BK163.out; have hcz29_1 := bc1 BK163.out; have hcz29_2 := bc2 BK163.out; have hcz29_3 := bc3 BK163.out; have hfz29_0 := blk_frozen BK163.out 0; have hfz29_1 := blk_frozen BK163.out 1; have hfz29_2 := blk_frozen BK163.out 2; have hfz29_3 := blk_frozen BK163.out 3) | (go_at_call 119; (with_reducible refine (expr_word.calls k a0_1 true _ ?side1 ?side2 A23.out).mono ?_); (case side1 => exact qax0); (case side2 => exact qax2); rintro e w30 ⟨rfl, hb⟩; have n0_ := Aside0.mk (blk_below (g := gb163) (o := .cells #[.string a0_0, .string a0_1, .int .i64 a0_2, .int .u8 a0_3] 38 (0, 0)) qax8 hb); have n1_ := Aside0.mk (below_step qax4 hb); clear BK163; clear HB; have BK163 := n0_; have HB := n1_; clear n0_ n1_; (try clear hb); (try clear hb2); (try clear hk); (try clear hi); have hcz31_0 := bc0 BK163.out; have hcz31_1 := bc1 BK163.out; have hcz31_2 := bc2 BK163.out; have hcz31_3 := bc3 BK163.out; have hfz31_0 := blk_frozen BK163.out 0; have hfz31_1 := blk_frozen BK163.out 1; have hfz31_2 := blk_frozen BK163.out 2; have hfz31_3 := blk_frozen BK163.out 3))
      go_ret
      exact ⟨by first | rfl | (simp [errW_none, errW_some] <;> rfl) | (simp [*, errW_none, errW_some] <;> rfl), by repeat (first | (with_reducible first | exact HB.out | apply below_alloc | apply pw_below_drewN | apply below_drew1 | refine below_set ?_ GE163.out) | exact HB.out)⟩
     ·
      rw [if_neg c25] at H
      have c25b0 : decide (4 < (wrap64 (a0_3))) = false := decide_eq_false c25
      clear c25
      obtain rfl := Option.some.inj H
      go_enter Tryz.func85, Tryz.ntmps85
      go_wp2_with (first | ((with_reducible refine gate_dst (N := 1) rfl ?_); refine box_event ?hg (N := 1) ?hd (cs := #[.string a0_0, .string a0_1, .int .i64 a0_2, .int .u8 a0_3]) (t := 38) ?hr ?_; (case hd => rfl); (case hg => rfl); (case hr => exact qax11); intro gb163 hg w32 hbox hb; have n0_ := Aside0.mk (below_step qax7 hb); have n1_ := Aside0.mk (hbox); have n2_ := Aside0.mk ((by rw [hg]; exact (below_size qax7) : w.heap.size ≤ gb163)); have n3_ := Aside0.mk ((by rw [hg]; exact (below_size qax7) : w.heap.size ≤ gb163)); clear HB; have HB := n0_; have BK163 := n1_; have GW163 := n2_; have GE163 := n3_; clear n0_ n1_ n2_ n3_; clear hb hbox hg; have hcz33_0 := bc0 BK163.out; have hcz33_1 := bc1 BK163.out; have hcz33_2 := bc2 BK163.out; have hcz33_3 := bc3 BK163.out; have hfz33_0 := blk_frozen BK163.out 0; have hfz33_1 := blk_frozen BK163.out 1; have hfz33_2 := blk_frozen BK163.out 2; have hfz33_3 := blk_frozen BK163.out 3) | (go_at_call 119; (with_reducible refine (expr_word.calls k a0_0 true _ ?side1 ?side2 A11.out).mono ?_); (case side1 => exact qax0); (case side2 => exact qax2); rintro e w34 ⟨rfl, hb⟩; have n0_ := Aside0.mk (blk_below (g := gb163) (o := .cells #[.string a0_0, .string a0_1, .int .i64 a0_2, .int .u8 a0_3] 38 (0, 0)) qax8 hb); have n1_ := Aside0.mk (below_step qax4 hb); clear BK163; clear HB; have BK163 := n0_; have HB := n1_; clear n0_ n1_; (try clear hb); (try clear hb2); (try clear hk); (try clear hi); have hcz35_0 := bc0 BK163.out; have hcz35_1 := bc1 BK163.out; have hcz35_2 := bc2 BK163.out; have hcz35_3 := bc3 BK163.out; have hfz35_0 := blk_frozen BK163.out 0; have hfz35_1 := blk_frozen BK163.out 1; have hfz35_2 := blk_frozen BK163.out 2; have hfz35_3 := blk_frozen BK163.out 3) | (go_at_call 119; (with_reducible refine (expr_word.calls k a0_1 true _ ?side1 ?side2 A23.out).mono ?_); (case side1 => exact qax0); (case side2 => exact qax2); rintro e w36 ⟨rfl, hb⟩; have n0_ := Aside0.mk (blk_below (g := gb163) (o := .cells #[.string a0_0, .string a0_1, .int .i64 a0_2, .int .u8 a0_3] 38 (0, 0)) qax8 hb); have n1_ := Aside0.mk (below_step qax4 hb); clear BK163; clear HB; have BK163 := n0_; have HB := n1_; clear n0_ n1_; (try clear hb); (try clear hb2); (try clear hk); (try clear hi); have hcz37_0 := bc0 BK163.out; have hcz37_1 := bc1 BK163.out; have hcz37_2 := bc2 BK163.out; have hcz37_3 := bc3 BK163.out; have hfz37_0 := blk_frozen BK163.out 0; have hfz37_1 := blk_frozen BK163.out 1; have hfz37_2 := blk_frozen BK163.out 2; have hfz37_3 := blk_frozen BK163.out 3))
      go_ret
      exact ⟨by first | rfl | (simp [errW_none, errW_some] <;> rfl) | (simp [*, errW_none, errW_some] <;> rfl), by repeat (first | (with_reducible first | exact HB.out | apply below_alloc | apply pw_below_drewN | apply below_drew1 | refine below_set ?_ GE163.out) | exact HB.out)⟩
    ·
     replace c24 := Bool.eq_false_iff.mpr c24
     subst c24
     have H1 : (some 8) = some r := by rw [if_neg (show ¬ (false = true) by decide)] at H; exact H
     clear H
     have H := H1
     clear H1
     obtain rfl := Option.some.inj H
     go_enter Tryz.func85, Tryz.ntmps85
     go_wp2_with (first | ((with_reducible refine gate_dst (N := 1) rfl ?_); refine box_event ?hg (N := 1) ?hd (cs := #[.string a0_0, .string a0_1, .int .i64 a0_2, .int .u8 a0_3]) (t := 38) ?hr ?_; (case hd => rfl); (case hg => rfl); (case hr => exact qax11); intro gb163 hg w38 hbox hb; have n0_ := Aside0.mk (below_step qax7 hb); have n1_ := Aside0.mk (hbox); have n2_ := Aside0.mk ((by rw [hg]; exact (below_size qax7) : w.heap.size ≤ gb163)); have n3_ := Aside0.mk ((by rw [hg]; exact (below_size qax7) : w.heap.size ≤ gb163)); clear HB; have HB := n0_; have BK163 := n1_; have GW163 := n2_; have GE163 := n3_; clear n0_ n1_ n2_ n3_; clear hb hbox hg; have hcz39_0 := bc0 BK163.out; have hcz39_1 := bc1 BK163.out; have hcz39_2 := bc2 BK163.out; have hcz39_3 := bc3 BK163.out; have hfz39_0 := blk_frozen BK163.out 0; have hfz39_1 := blk_frozen BK163.out 1; have hfz39_2 := blk_frozen BK163.out 2; have hfz39_3 := blk_frozen BK163.out 3) | (go_at_call 119; (with_reducible refine (expr_word.calls k a0_0 true _ ?side1 ?side2 A11.out).mono ?_); (case side1 => exact qax0); (case side2 => exact qax2); rintro e w40 ⟨rfl, hb⟩; have n0_ := Aside0.mk (blk_below (g := gb163) (o := .cells #[.string a0_0, .string a0_1, .int .i64 a0_2, .int .u8 a0_3] 38 (0, 0)) qax8 hb); have n1_ := Aside0.mk (below_step qax4 hb); clear BK163; clear HB; have BK163 := n0_; have HB := n1_; clear n0_ n1_; (try clear hb); (try clear hb2); (try clear hk); (try clear hi); have hcz41_0 := bc0 BK163.out; have hcz41_1 := bc1 BK163.out; have hcz41_2 := bc2 BK163.out; have hcz41_3 := bc3 BK163.out; have hfz41_0 := blk_frozen BK163.out 0; have hfz41_1 := blk_frozen BK163.out 1; have hfz41_2 := blk_frozen BK163.out 2; have hfz41_3 := blk_frozen BK163.out 3) | (go_at_call 119; (with_reducible refine (expr_word.calls k a0_1 false _ ?side1 ?side2 A23.out).mono ?_); (case side1 => exact qax0); (case side2 => exact qax2); rintro e w42 ⟨rfl, hb⟩; have n0_ := Aside0.mk (blk_below (g := gb163) (o := .cells #[.string a0_0, .string a0_1, .int .i64 a0_2, .int .u8 a0_3] 38 (0, 0)) qax8 hb); have n1_ := Aside0.mk (below_step qax4 hb); clear BK163; clear HB; have BK163 := n0_; have HB := n1_; clear n0_ n1_; (try clear hb); (try clear hb2); (try clear hk); (try clear hi)))
     go_ret
     exact ⟨by first | rfl | (simp [errW_none, errW_some] <;> rfl) | (simp [*, errW_none, errW_some] <;> rfl), by repeat (first | (with_reducible first | exact HB.out | apply below_alloc | apply pw_below_drewN | apply below_drew1 | refine below_set ?_ GE163.out) | exact HB.out)⟩
  ·
   replace c12 := Bool.eq_false_iff.mpr c12
   subst c12
   have H1 : (some 8) = some r := by rw [if_neg (show ¬ (false = true) by decide)] at H; exact H
   clear H
   have H := H1
   clear H1
   obtain rfl := Option.some.inj H
   go_enter Tryz.func85, Tryz.ntmps85
   go_wp2_with (first | ((with_reducible refine gate_dst (N := 1) rfl ?_); refine box_event ?hg (N := 1) ?hd (cs := #[.string a0_0, .string a0_1, .int .i64 a0_2, .int .u8 a0_3]) (t := 38) ?hr ?_; (case hd => rfl); (case hg => rfl); (case hr => exact qax11); intro gb163 hg w43 hbox hb; have n0_ := Aside0.mk (below_step qax7 hb); have n1_ := Aside0.mk (hbox); have n2_ := Aside0.mk ((by rw [hg]; exact (below_size qax7) : w.heap.size ≤ gb163)); have n3_ := Aside0.mk ((by rw [hg]; exact (below_size qax7) : w.heap.size ≤ gb163)); clear HB; have HB := n0_; have BK163 := n1_; have GW163 := n2_; have GE163 := n3_; clear n0_ n1_ n2_ n3_; clear hb hbox hg; have hcz44_0 := bc0 BK163.out; have hcz44_1 := bc1 BK163.out; have hcz44_2 := bc2 BK163.out; have hcz44_3 := bc3 BK163.out; have hfz44_0 := blk_frozen BK163.out 0; have hfz44_1 := blk_frozen BK163.out 1; have hfz44_2 := blk_frozen BK163.out 2; have hfz44_3 := blk_frozen BK163.out 3) | (go_at_call 119; (with_reducible refine (expr_word.calls k a0_0 false _ ?side1 ?side2 A11.out).mono ?_); (case side1 => exact qax0); (case side2 => exact qax2); rintro e w45 ⟨rfl, hb⟩; have n0_ := Aside0.mk (blk_below (g := gb163) (o := .cells #[.string a0_0, .string a0_1, .int .i64 a0_2, .int .u8 a0_3] 38 (0, 0)) qax8 hb); have n1_ := Aside0.mk (below_step qax4 hb); clear BK163; clear HB; have BK163 := n0_; have HB := n1_; clear n0_ n1_; (try clear hb); (try clear hb2); (try clear hk); (try clear hi)))
   go_ret
   exact ⟨by first | rfl | (simp [errW_none, errW_some] <;> rfl) | (simp [*, errW_none, errW_some] <;> rfl), by repeat (first | (with_reducible first | exact HB.out | apply below_alloc | apply pw_below_drewN | apply below_drew1 | refine below_set ?_ GE163.out) | exact HB.out)⟩


section
open Go.Proofs.YtbfndlfemhidaaaGreatDoor.Lex
namespace TK
def xV (x : Ex.X) : Array Value := #[.string ⟨x.s.toArray⟩, .string ⟨x.l.toArray⟩, .int .i64 x.n, .int .u8 (x.m : Int)]
theorem word_f (s : ByteArray) (hs : s.size ≤ 1000000) : expr_word.f 2000000 s = some (Ex.wordL s.data.toList) := by
 unfold expr_word.f lex_Check.f
 have ht := ZT.text_f ⟨1, s, 0⟩ (by show (0 : Int) ≤ 1; decide) (by show s.size ≤ 100000000000; omega) (by show -9223372036854775808 ≤ (0 : Int) ∧ (0 : Int) < 9223372036854775808; omega) 2000000 (by simp only; omega)
 simp only at ht
 rw [ht]
 simp only [Option.bind_some]
 have hm : (Lex.textL (ZT.toTok ⟨1, s, 0⟩)).2 = (Lex.nameL s.data.toList || Lex.localL s.data.toList) := by
  simp [Lex.textL, ZT.toTok]
 rw [hm]
 unfold Ex.wordL
 cases hc : (Lex.nameL s.data.toList || Lex.localL s.data.toList) with
 | false => simp
 | true =>
  have hne : 0 < s.size := by
   have : s.data.toList ≠ [] := by
    intro e
    rw [e] at hc
    exact absurd hc (by decide)
   rw [← ZT.size_data]
   exact List.length_pos_iff.2 this
  have hg : s.data.toList.getD 0 0 = s[0] := by
   have : 0 < s.data.toList.length := by rw [ZT.size_data]; exact hne
   simp [List.getD, List.getElem?_eq_getElem this]
   rfl
  have hb : bt s 0 = (s[0].toNat : Int) := ZT.bt_lt s 0 hne
  have hp : ∀ c : UInt8, (((c.toNat : Int) != 37) = !(c == 37)) := by
   intro c
   have := Lex.bytes (p := fun c => ((c.toNat : Int) != 37) == !(c == 37)) (by decide +kernel) c
   simpa using this
  simp only [if_true, Option.bind_some]
  rw [if_pos (by omega), hb, hg, hp]
  simp
theorem word_calls (s : ByteArray) (hs : s.size ≤ 1000000) (w : World) (hT : Lib.TabIs Tryz.prog w "internal/strconv.uint64pow10" .u64 Lib.pow10Tab) (hD : LexW.LexD w) :
  Calls Tryz.prog 119 #[.string s] w fun e w' => e = .returned (.bool (Ex.wordL s.data.toList)) ∧ Below w.heap.size w w' :=
 expr_word.calls 2000000 s _ w hT hD (word_f s hs)
theorem empty_s {s : List UInt8} (h : s = []) : ((⟨s.toArray⟩ : ByteArray).toList != ([] : List UInt8)) = false ∧ (⟨s.toArray⟩ : ByteArray).toList.isEmpty = true ∧ ((⟨s.toArray⟩ : ByteArray).toList == ([] : List UInt8)) = true := by
 subst h
 rw [ByteArray.toList_eq]
 exact ⟨rfl, rfl, rfl⟩
theorem nonempty_s {s : List UInt8} (h : ¬ s = []) : ((⟨s.toArray⟩ : ByteArray).toList != ([] : List UInt8)) = true ∧ (⟨s.toArray⟩ : ByteArray).toList.isEmpty = false ∧ ((⟨s.toArray⟩ : ByteArray).toList == ([] : List UInt8)) = false := by
 rw [ByteArray.toList_eq]
 cases s with
 | nil => exact absurd rfl h
 | cons c s => exact ⟨rfl, rfl, rfl⟩
theorem infoT : (Tryz.prog.info? 61).map (fun i => (i.zero, i.size, i.bytes)) = some (some (.agg #[.int .u8 0, .string ⟨#[]⟩, .int .i64 0]), 3, 32) := by kernel_rfl
structure PT (w W : World) (b : Nat) (l : List S61) : Prop where
 bel : Below w.heap.size w W
 ge : w.heap.size ≤ b
 v : ∃ A n q, n = l.length ∧ W.heap[b]? = some (.cells #[.slice A n q] 46 (0, 0)) ∧ Kd.R k61 61 W w.heap.size (fun k => k ≠ b) (.slice A n q) l
set_option maxHeartbeats 4000000 in
set_option maxRecDepth 100000 in
theorem add_calls (w W : World) (b : Nat) (l : List S61) (k : Int) (s : ByteArray) (h : PT w W b l) (hl : l.length ≤ 100) :
  Calls Tryz.prog 86 #[.int .u8 k, .string s, .pointer (some ⟨b, 0, none⟩)] W fun e W' => e = .returned (.tuple #[]) ∧ PT w W' b (l ++ [⟨k, s, 0⟩]) := by
 obtain ⟨A4, m, q4, hm, hv, hR⟩ := h.v
 have hlt := blk_lt hv
 have H := Aside0.mk h
 have HL := Aside0.mk hl
 have HR := Aside0.mk hR
 have HM := Aside0.mk hm
 have HV := Aside0.mk hv
 have HLT := Aside0.mk hlt
 have c0 := bc0 hv
 have f0 := blk_frozen hv 0
 clear h hl hv hlt hR hm
 go_enter Tryz.func86, Tryz.ntmps86
 go_wp2_with (first | ((with_reducible refine gate_builtin (b := .append) (xs := #[.tmp 5, .tmp 9]) rfl ?_); at_builtin; refine Kd.R_append k61 (w0 := w) (W := W) w.heap.size rfl (.tmp 5) (.tmp 9) 46 61 (.agg #[.int .u8 0, .string ⟨#[]⟩, .int .i64 0]) 32 rfl Tryz.underlying46 infoT rfl (by decide) (by omega) (.slice A4 m q4) l ⟨k, s, 0⟩ [.int .u8 k, .string s, .int .i64 0] (fun k => k ≠ b) (fun _ => False) rfl rfl ?aP (fun _ hk => hk.elim) ?aF ?aO ?aB ?aS ?aL ?_; (case aP => exact k61_mkM _ _ _ ⟨k, s, 0⟩); (case aF => exact fun k hk => by have := HLT.out; omega); (case aO => exact HR.out); (case aB => exact H.out.bel); (case aS => exact H.out.bel.size); (case aL => have := HL.out; omega); intro v7 w7 ho hb7 hg7 _; obtain ⟨A7, q7, rfl⟩ := Kd.R_slice ho; have HR7 := Aside0.mk ho; have HB7 := Aside0.mk hb7; have BK7 := Aside0.mk (blk_grown HV.out hg7 (fun e => HR.out.1 b e.symm rfl)); have c7 := bc0 BK7.out; have f7 := blk_frozen BK7.out 0; clear ho hb7 hg7))
 go_end0
 have h7 := HR7.out
 rw [show (l ++ [(⟨k, s, 0⟩ : S61)]).length = l.length + 1 by rw [List.length_append]; rfl] at h7
 exact ⟨rfl, ⟨HB7.out.setCell H.out.ge _, H.out.ge, _, _, _, by rw [List.length_append]; rfl, blk_put BK7.out 0 _ rfl, Kd.R_far h7 (fun _ h => h) _⟩⟩
def tkS (x : Lex.Tok) : S61 := ⟨(x.k : Int), ⟨x.t.toArray⟩, x.n⟩
structure okX (x : Ex.X) : Prop where
 s : x.s.length ≤ 1000000
 l : x.l.length ≤ 1000000
 m : x.m < 256
theorem bsz (l : List UInt8) : (⟨l.toArray⟩ : ByteArray).size = l.length := by show l.toArray.size = l.length; simp
theorem check_f (x : Ex.X) (h : okX x) : expr_Check.f 2000000 ⟨x.s.toArray⟩ ⟨x.l.toArray⟩ x.n (x.m : Int) = some (if Ex.checkL x then 0 else 8) := by
 have hw : wrap64 (x.m : Int) = (x.m : Int) := by have := h.m; unfold wrap64; omega
 have fs := word_f ⟨x.s.toArray⟩ (by rw [bsz]; exact h.s)
 have fl := word_f ⟨x.l.toArray⟩ (by rw [bsz]; exact h.l)
 unfold expr_Check.f Ex.checkL
 rw [fs, fl, hw, ByteArray.toList_eq, ByteArray.toList_eq]
 simp only [Option.bind_some]
 by_cases c1 : x.s = [] <;> by_cases c2 : x.l = [] <;> by_cases c3 : (x.m : Int) > 4 <;> cases hs : Ex.wordL x.s <;> cases hl : Ex.wordL x.l <;> simp [c1, c2, c3, hs, hl] <;> omega
theorem cell_mods {W : World} (h : ExW.ModsAt W) (j : Nat) (hj : j < 4) : W.cell? ⟨1, j, none⟩ = some (.string ⟨(Ex.modName (j + 1)).toArray⟩) := h j hj
theorem mod_case (x : Ex.X) (M : Int) (hM : M = (x.m : Int)) (hc : Ex.checkL x = true) : ∃ (j : Nat) (N : ByteArray), (∀ W, ExW.ModsAt W → W.cell? ⟨1, j, none⟩ = some (.string N)) ∧ j < 4 ∧
  ((decide (0 < M) = false ∧ (Ex.toksX x).map tkS = (Ex.bodyX x).map tkS) ∨ (decide (0 < M) = true ∧ (M - 1) % 256 = (j : Int) ∧ (Ex.toksX x).map tkS = [⟨1, N, 0⟩, ⟨4, ⟨#[40]⟩, 0⟩] ++ (Ex.bodyX x).map tkS ++ [⟨4, ⟨#[41]⟩, 0⟩])) := by
 have h4 := (Ex.check_parts hc).2.2
 rw [Ex.toks_body]
 by_cases h0 : 0 < x.m
 ·
  refine ⟨x.m - 1, _, fun W h => cell_mods h _ (by omega), by omega, .inr ⟨decide_eq_true (by omega), by omega, ?_⟩⟩
  rw [if_pos h0, if_pos h0, show x.m - 1 + 1 = x.m by omega]
  simp only [List.map_append, List.map_cons, List.map_nil]
  rfl
 ·
  refine ⟨0, _, fun W h => cell_mods h _ (by omega), by omega, .inl ⟨decide_eq_false (by omega), ?_⟩⟩
  rw [if_neg h0, if_neg h0, List.nil_append, List.append_nil]
theorem body_case (x : Ex.X) (S L : ByteArray) (hS : S = ⟨x.s.toArray⟩) (hL : L = ⟨x.l.toArray⟩) (hc : Ex.checkL x = true) :
  ((S.toList != ([] : List UInt8)) = false ∧ (S.toList == ([] : List UInt8)) = true ∧ S.toList.isEmpty = true ∧ (L.toList != ([] : List UInt8)) = false ∧ (L.toList == ([] : List UInt8)) = true ∧ L.toList.isEmpty = true ∧ (x.n != 0) = true ∧ (Ex.bodyX x).map tkS = [⟨2, ⟨#[]⟩, x.n⟩]) ∨
  ((S.toList != ([] : List UInt8)) = false ∧ (S.toList == ([] : List UInt8)) = true ∧ S.toList.isEmpty = true ∧ (L.toList != ([] : List UInt8)) = false ∧ (L.toList == ([] : List UInt8)) = true ∧ L.toList.isEmpty = true ∧ (x.n != 0) = false ∧ (Ex.bodyX x).map tkS = [⟨2, ⟨#[]⟩, x.n⟩]) ∨
  ((S.toList != ([] : List UInt8)) = true ∧ (S.toList == ([] : List UInt8)) = false ∧ S.toList.isEmpty = false ∧ (L.toList != ([] : List UInt8)) = false ∧ (L.toList == ([] : List UInt8)) = true ∧ L.toList.isEmpty = true ∧ (x.n != 0) = true ∧ (Ex.bodyX x).map tkS = [⟨1, S, 0⟩, ⟨4, ⟨#[43]⟩, 0⟩, ⟨2, ⟨#[]⟩, x.n⟩]) ∨
  ((S.toList != ([] : List UInt8)) = true ∧ (S.toList == ([] : List UInt8)) = false ∧ S.toList.isEmpty = false ∧ (L.toList != ([] : List UInt8)) = false ∧ (L.toList == ([] : List UInt8)) = true ∧ L.toList.isEmpty = true ∧ (x.n != 0) = false ∧ (Ex.bodyX x).map tkS = [⟨1, S, 0⟩]) ∨
  ((S.toList != ([] : List UInt8)) = true ∧ (S.toList == ([] : List UInt8)) = false ∧ S.toList.isEmpty = false ∧ (L.toList != ([] : List UInt8)) = true ∧ (L.toList == ([] : List UInt8)) = false ∧ L.toList.isEmpty = false ∧ (x.n != 0) = true ∧ (Ex.bodyX x).map tkS = [⟨1, S, 0⟩, ⟨4, ⟨#[45]⟩, 0⟩, ⟨1, L, 0⟩, ⟨4, ⟨#[43]⟩, 0⟩, ⟨2, ⟨#[]⟩, x.n⟩]) ∨
  ((S.toList != ([] : List UInt8)) = true ∧ (S.toList == ([] : List UInt8)) = false ∧ S.toList.isEmpty = false ∧ (L.toList != ([] : List UInt8)) = true ∧ (L.toList == ([] : List UInt8)) = false ∧ L.toList.isEmpty = false ∧ (x.n != 0) = false ∧ (Ex.bodyX x).map tkS = [⟨1, S, 0⟩, ⟨4, ⟨#[45]⟩, 0⟩, ⟨1, L, 0⟩]) := by
 obtain ⟨hs, hl, hm⟩ := Ex.check_parts hc
 subst hS hL
 by_cases c1 : x.s = []
 ·
  obtain ⟨a1, a2, a3⟩ := empty_s c1
  have c2 : x.l = [] := by
   rcases hl with h | h
   ·
    exact h
   ·
    exact absurd c1 h.1
  obtain ⟨b1, b2, b3⟩ := empty_s c2
  by_cases c3 : x.n = 0
  ·
   exact .inr (.inl ⟨a1, a3, a2, b1, b3, b2, bne_eq_false_iff_eq.2 c3, by simp [Ex.bodyX, c1, c2, c3, tkS]⟩)
  ·
   exact .inl ⟨a1, a3, a2, b1, b3, b2, bne_iff_ne.2 c3, by simp [Ex.bodyX, c1, c2, c3, tkS]⟩
 ·
  obtain ⟨a1, a2, a3⟩ := nonempty_s c1
  by_cases c2 : x.l = []
  ·
   obtain ⟨b1, b2, b3⟩ := empty_s c2
   by_cases c3 : x.n = 0
   ·
    exact .inr (.inr (.inr (.inl ⟨a1, a3, a2, b1, b3, b2, bne_eq_false_iff_eq.2 c3, by simp [Ex.bodyX, c1, c2, c3, tkS, Ex.mk]⟩)))
   ·
    exact .inr (.inr (.inl ⟨a1, a3, a2, b1, b3, b2, bne_iff_ne.2 c3, by simp [Ex.bodyX, c1, c2, c3, tkS, Ex.mk]⟩))
  ·
   obtain ⟨b1, b2, b3⟩ := nonempty_s c2
   by_cases c3 : x.n = 0
   ·
    exact .inr (.inr (.inr (.inr (.inr ⟨a1, a3, a2, b1, b3, b2, bne_eq_false_iff_eq.2 c3, by simp [Ex.bodyX, c1, c2, c3, tkS, Ex.mk]⟩))))
   ·
    exact .inr (.inr (.inr (.inr (.inl ⟨a1, a3, a2, b1, b3, b2, bne_iff_ne.2 c3, by simp [Ex.bodyX, c1, c2, c3, tkS, Ex.mk]⟩))))
theorem r_self {W : World} {c base : Nat} {v : Value} {l : List S61} (h : Kd.R k61 61 W base (fun k => k ≠ c) v l) : Kd.R k61 61 (W.setCell ⟨c, 0, none⟩ v) base (fun k => k ≠ c) v l := Kd.R_far (p := ⟨c, 0, none⟩) h (fun _ h => h) v
set_option maxHeartbeats 16000000 in
set_option maxRecDepth 100000 in
theorem tok_walk (w : World) (x : Ex.X) (ok : okX x) (hT : Lib.TabIs Tryz.prog w "internal/strconv.uint64pow10" .u64 Lib.pow10Tab) (hD : LexW.LexD w) (hM : ExW.ModsAt w) (hc : Ex.checkL x = true) :
  Calls Tryz.prog 51 #[.agg (xV x)] w fun e w' => ∃ v, e = .returned (.tuple #[v, .int .i64 0]) ∧ Kd.R k61 61 w' w.heap.size (fun _ => True) v ((Ex.toksX x).map tkS) ∧ Below w.heap.size w w' := by
 have HT := Aside0.mk hT
 have HD := Aside0.mk hD
 have HM := Aside0.mk hM
 have CH := Aside0.mk (check_f x ok)
 rw [if_pos hc] at CH
 clear hT hD hM
 unfold xV
 obtain ⟨S, hS⟩ : ∃ S : ByteArray, S = ⟨x.s.toArray⟩ := ⟨_, rfl⟩
 obtain ⟨L, hL⟩ : ∃ L : ByteArray, L = ⟨x.l.toArray⟩ := ⟨_, rfl⟩
 obtain ⟨M, hM⟩ : ∃ M : Int, M = (x.m : Int) := ⟨_, rfl⟩
 rw [← hS, ← hL, ← hM]
 rw [← hS, ← hL, ← hM] at CH
 obtain ⟨j, N, hN, hj, hm⟩ := mod_case x M hM hc
 have XM := Aside0.mk hN
 have hb := body_case x S L hS hL hc
 clear hS hL hM hc ok hN
 rcases hm with ⟨m1, e1⟩ | ⟨m1, m2, e1⟩ <;> rcases hb with ⟨s1, s2, s3, l1, l2, l3, n1, e2⟩ | ⟨s1, s2, s3, l1, l2, l3, n1, e2⟩ | ⟨s1, s2, s3, l1, l2, l3, n1, e2⟩ | ⟨s1, s2, s3, l1, l2, l3, n1, e2⟩ | ⟨s1, s2, s3, l1, l2, l3, n1, e2⟩ | ⟨s1, s2, s3, l1, l2, l3, n1, e2⟩
 all_goals
  have E := Aside0.mk (e1.trans (by rw [e2]))
  clear e1 e2
  go_enter Tryz.func51, Tryz.ntmps51
  go_wp2_with (first | ((with_reducible refine gate_dst (N := 1) rfl ?_); refine box_event ?hg (N := 1) ?hd (cs := #[.string S, .string L, .int .i64 x.n, .int .u8 M]) (t := 38) ?hr ?_; (case hd => rfl); (case hg => rfl); (case hr => exact qax11); intro b hg w1 hbox hb; have HB1 := Aside0.mk hb; have BX1 := Aside0.mk hbox; have GB : Aside0 (w.heap.size ≤ b) := ⟨by rw [hg]; exact Nat.le_refl _⟩; have x0 := bc0 BX1.out; have x1 := bc1 BX1.out; have x2 := bc2 BX1.out; have x3 := bc3 BX1.out; clear hb hbox hg) | (go_at_call 85; have hT1 := Lib.tabBelow_of_tabIs HT.out _ HB1.out; (with_reducible refine (expr_Check.calls 2000000 _ _ _ _ _ _ hT1 (HD.out.below HB1.out) CH.out).mono ?_); rintro e w2 ⟨rfl, hb⟩; clear x0 x1 x2 x3; have HB2 := Aside0.mk (below_step HB1.out hb); have BX2 := Aside0.mk (blk_below BX1.out hb); have x0 := bc0 BX2.out; have x1 := bc1 BX2.out; have x2 := bc2 BX2.out; have x3 := bc3 BX2.out; clear hb) | ((with_reducible refine gate_dst (N := 5) rfl ?_); refine box_event ?hg (N := 5) ?hd (cs := #[.slice none 0 0]) (t := 46) ?hr ?_; (case hd => rfl); (case hg => rfl); (case hr => exact qax11); intro c hg w3 hbox hb; clear x0 x1 x2 x3; have P : Aside0 (PT w2 w3 c []) := ⟨⟨hb, by rw [hg]; exact Nat.le_refl _, none, 0, 0, rfl, hbox, Kd.R_nil _ _ _ _ _⟩⟩; clear hb hbox hg; have x0 : w3.cell? ⟨b, 0, none⟩ = some (.string S) := (blk_cell (blk_below BX2.out P.out.bel) 0).trans rfl; have x1 : w3.cell? ⟨b, 1, none⟩ = some (.string L) := (blk_cell (blk_below BX2.out P.out.bel) 1).trans rfl; have x2 : w3.cell? ⟨b, 2, none⟩ = some (.int .i64 x.n) := (blk_cell (blk_below BX2.out P.out.bel) 2).trans rfl; have x3 : w3.cell? ⟨b, 3, none⟩ = some (.int .u8 M) := (blk_cell (blk_below BX2.out P.out.bel) 3).trans rfl; have xm := XM.out _ (HM.out.below (below_step HB2.out P.out.bel)); obtain ⟨Av, nv, qv, hnv, hcv, hrv⟩ := P.out.v; have cv := bc0 hcv; have fv := blk_frozen hcv 0; have HCV := Aside0.mk hcv; have HRV := Aside0.mk hrv; have HNV := Aside0.mk hnv; clear hnv hcv hrv) | (go_at_call 86; (with_reducible refine (add_calls w2 _ c _ _ _ P.out (by simp)).mono ?_); rintro e w3 ⟨rfl, hp⟩; have P2 := Aside0.mk hp; clear hp P x0 x1 x2 x3 xm cv fv HCV HRV HNV; have P := P2; clear P2; have x0 : w3.cell? ⟨b, 0, none⟩ = some (.string S) := (blk_cell (blk_below BX2.out P.out.bel) 0).trans rfl; have x1 : w3.cell? ⟨b, 1, none⟩ = some (.string L) := (blk_cell (blk_below BX2.out P.out.bel) 1).trans rfl; have x2 : w3.cell? ⟨b, 2, none⟩ = some (.int .i64 x.n) := (blk_cell (blk_below BX2.out P.out.bel) 2).trans rfl; have x3 : w3.cell? ⟨b, 3, none⟩ = some (.int .u8 M) := (blk_cell (blk_below BX2.out P.out.bel) 3).trans rfl; have xm := XM.out _ (HM.out.below (below_step HB2.out P.out.bel)); obtain ⟨Av, nv, qv, hnv, hcv, hrv⟩ := P.out.v; have cv := bc0 hcv; have fv := blk_frozen hcv 0; have HCV := Aside0.mk hcv; have HRV := Aside0.mk hrv; have HNV := Aside0.mk hnv; clear hnv hcv hrv) | ((with_reducible refine gate_builtin (b := .append) (xs := #[.tmp 54, .tmp 58]) rfl ?_); at_builtin; refine Kd.R_append k61 (w0 := w2) (W := w3) w2.heap.size rfl (.tmp 54) (.tmp 58) 46 61 (.agg #[.int .u8 0, .string ⟨#[]⟩, .int .i64 0]) 32 rfl Tryz.underlying46 infoT rfl (by decide) (by omega) (.slice Av nv qv) _ ⟨2, ⟨#[]⟩, x.n⟩ [.int .u8 2, .string ⟨#[]⟩, .int .i64 x.n] (fun k => k ≠ c) (fun _ => False) rfl rfl ?aP (fun _ hk => hk.elim) ?aF HRV.out ?aB ?aS ?aL ?_; (case aP => exact k61_mkM _ _ _ ⟨2, ⟨#[]⟩, x.n⟩); (case aF => exact fun k hk => by have := blk_lt HCV.out; omega); (case aB => exact P.out.bel); (case aS => exact P.out.bel.size); (case aL => simp); intro v7 w3 ho hb7 hg7 _; obtain ⟨A7, q7, rfl⟩ := Kd.R_slice ho; have HR7 := Aside0.mk ho; have HB7 := Aside0.mk hb7; have BK7 := Aside0.mk (blk_grown HCV.out hg7 (fun e => HRV.out.1 c e.symm rfl)); clear cv fv; have cv := bc0 BK7.out; have fv := blk_frozen BK7.out 0; have BX3 := Aside0.mk (blk_below BX2.out hb7); have xm2 := XM.out _ (HM.out.below (below_step HB2.out hb7)); have P2 : Aside0 (PT w2 (w3.setCell ⟨c, 0, none⟩ (.slice A7 _ q7)) c _) := ⟨⟨hb7.setCell P.out.ge _, P.out.ge, _, _, _, rfl, blk_put BK7.out 0 _ rfl, Kd.R_far ho (fun _ h => h) _⟩⟩; have HR2 := Aside0.mk (r_self ho); simp only [List.length_append, List.length_cons, List.length_nil, Nat.reduceAdd] at P2 HR2; clear ho hb7 hg7 P HRV HCV HNV x0 x1 x2 x3 xm HR7 HB7; have P := P2; have HRV := HR2; have xm := xm2; have HCV := BK7; have HNV := BK7; clear P2 HR2 xm2; have x0 := bc0 BX3.out; have x1 := bc1 BX3.out; have x2 := bc2 BX3.out; have x3 := bc3 BX3.out))
 all_goals
  go_ret2
  exact ⟨_, rfl, by rw [E.out]; exact Kd.R_lower (Kd.R_mono HRV.out (fun _ _ => trivial)) (below_size HB2.out), below_step HB2.out P.out.bel⟩
set_option maxHeartbeats 4000000 in
set_option maxRecDepth 100000 in
theorem tok_bad (w : World) (x : Ex.X) (ok : okX x) (hT : Lib.TabIs Tryz.prog w "internal/strconv.uint64pow10" .u64 Lib.pow10Tab) (hD : LexW.LexD w) (hc : Ex.checkL x = false) :
  Calls Tryz.prog 51 #[.agg (xV x)] w fun e w' => ∃ v, e = .returned (.tuple #[v, .int .i64 8]) ∧ Kd.R k61 61 w' w.heap.size (fun _ => True) v [] ∧ Below w.heap.size w w' := by
 have HT := Aside0.mk hT
 have HD := Aside0.mk hD
 have CH := Aside0.mk (check_f x ok)
 rw [if_neg (by rw [hc]; simp)] at CH
 clear hT hD
 unfold xV
 obtain ⟨S, hS⟩ : ∃ S : ByteArray, S = ⟨x.s.toArray⟩ := ⟨_, rfl⟩
 obtain ⟨L, hL⟩ : ∃ L : ByteArray, L = ⟨x.l.toArray⟩ := ⟨_, rfl⟩
 obtain ⟨M, hM⟩ : ∃ M : Int, M = (x.m : Int) := ⟨_, rfl⟩
 rw [← hS, ← hL, ← hM]
 rw [← hS, ← hL, ← hM] at CH
 clear hS hL hM hc ok
 go_enter Tryz.func51, Tryz.ntmps51
 go_wp2_with (first | ((with_reducible refine gate_dst (N := 1) rfl ?_); refine box_event ?hg (N := 1) ?hd (cs := #[.string S, .string L, .int .i64 x.n, .int .u8 M]) (t := 38) ?hr ?_; (case hd => rfl); (case hg => rfl); (case hr => exact qax11); intro b hg w1 hbox hb; have HB1 := Aside0.mk hb; have BX1 := Aside0.mk hbox; have GB : Aside0 (w.heap.size ≤ b) := ⟨by rw [hg]; exact Nat.le_refl _⟩; have x0 := bc0 BX1.out; have x1 := bc1 BX1.out; have x2 := bc2 BX1.out; have x3 := bc3 BX1.out; clear hb hbox hg) | (go_at_call 85; have hT1 := Lib.tabBelow_of_tabIs HT.out _ HB1.out; (with_reducible refine (expr_Check.calls 2000000 _ _ _ _ _ _ hT1 (HD.out.below HB1.out) CH.out).mono ?_); rintro e w2 ⟨rfl, hb⟩; clear x0 x1 x2 x3; have HB2 := Aside0.mk (below_step HB1.out hb); have BX2 := Aside0.mk (blk_below BX1.out hb); have x0 := bc0 BX2.out; have x1 := bc1 BX2.out; have x2 := bc2 BX2.out; have x3 := bc3 BX2.out; clear hb))
 go_ret2
 exact ⟨_, rfl, Kd.R_nil _ _ _ _ _, HB2.out⟩
end TK
def expr_Tokens.f (a0_0 a0_1 : ByteArray) (a0_2 a0_3 : Int) : Option (List S61 × Int) :=
 if a0_0.size ≤ 1000000 ∧ a0_1.size ≤ 1000000 ∧ 0 ≤ a0_3 ∧ a0_3 ≤ 255 then
  some (if Ex.checkL ⟨a0_0.data.toList, a0_1.data.toList, a0_2, a0_3.toNat⟩ then ((Ex.toksX ⟨a0_0.data.toList, a0_1.data.toList, a0_2, a0_3.toNat⟩).map TK.tkS, 0) else ([], 8))
 else none
theorem expr_Tokens.calls (a0_0 a0_1 : ByteArray) (a0_2 a0_3 : Int) (r1 : List S61) (r2 : Int) (w : World) (hT : Lib.TabIs Tryz.prog w "internal/strconv.uint64pow10" .u64 Lib.pow10Tab) (hD : LexW.LexD w) (hM : ExW.ModsAt w) (h : expr_Tokens.f a0_0 a0_1 a0_2 a0_3 = some (r1, r2)) :
  Calls Tryz.prog 51 #[.agg #[.string a0_0, .string a0_1, .int .i64 a0_2, .int .u8 a0_3]] w fun e w' => ∃ v0_ : Value, e = .returned (.tuple #[v0_, .int .i64 r2]) ∧ Kd.R k61 61 w' w.heap.size (fun _ => True) v0_ r1 ∧ Below w.heap.size w w' := by
 unfold expr_Tokens.f at h
 by_cases c : a0_0.size ≤ 1000000 ∧ a0_1.size ≤ 1000000 ∧ 0 ≤ a0_3 ∧ a0_3 ≤ 255
 ·
  rw [if_pos c] at h
  have e : (#[.string a0_0, .string a0_1, .int .i64 a0_2, .int .u8 a0_3] : Array Value) = TK.xV ⟨a0_0.data.toList, a0_1.data.toList, a0_2, a0_3.toNat⟩ := by
   unfold TK.xV
   rw [show ((a0_3.toNat : Nat) : Int) = a0_3 by omega]
  have ok : TK.okX ⟨a0_0.data.toList, a0_1.data.toList, a0_2, a0_3.toNat⟩ := ⟨by rw [Array.length_toList]; exact c.1, by rw [Array.length_toList]; exact c.2.1, by show a0_3.toNat < 256; omega⟩
  rw [e]
  cases hc : Ex.checkL ⟨a0_0.data.toList, a0_1.data.toList, a0_2, a0_3.toNat⟩ with
  | true =>
   rw [hc, if_pos rfl] at h
   simp only [Option.some.injEq, Prod.mk.injEq] at h
   obtain ⟨rfl, rfl⟩ := h
   exact TK.tok_walk w _ ok hT hD hM hc
  | false =>
   rw [hc, if_neg (by simp)] at h
   simp only [Option.some.injEq, Prod.mk.injEq] at h
   obtain ⟨rfl, rfl⟩ := h
   exact TK.tok_bad w _ ok hT hD hc
 ·
  rw [if_neg c] at h
  cases h
end

def slices_Index_string_string.l0 : Nat → List ByteArray → ByteArray → Int → Int → Option (Int)
 | 0, _, _, _, _ => none
 | k + 1, x0, x1, x7, x8 => if x8 < x7 then (if 0 ≤ x8 then (if x8 < (x0.length : Int) then (if x1.toList = (rdOf ByteArray.empty x0 x8).toList then (some x8) else (slices_Index_string_string.l0 k x0 x1 x7 (wrap64 (x8 + 1)))) else (none)) else (none)) else (some (-1))
def slices_Index_string_string.f (k : Nat) (l0 : List ByteArray) (a1 : ByteArray) : Option (Int) := slices_Index_string_string.l0 k l0 a1 (l0.length : Int) 0
set_option maxHeartbeats 8000000 in
set_option maxRecDepth 100000 in
theorem slices_Index_string_string.calls (k : Nat) (A0 : Option Addr) (c0 : Nat) (l0 : List ByteArray) (a1 : ByteArray) (r : Int) (w : World) (hr0 : Kd.C Kd.string w A0 l0.length l0) (hc0 : l0.length ≤ c0) (h : slices_Index_string_string.f k l0 a1 = some r) :
  Calls Tryz.prog 111 #[.slice A0 l0.length c0, .string a1] w fun e w' => e = .returned (.int .i64 r) ∧ Drawn0 w w' := by
 have HR0 := Aside0.mk hr0
 have HC0 := Aside0.mk hc0
 clear hr0 hc0
 have H : (slices_Index_string_string.l0 k l0 a1 (l0.length : Int) 0) = some r := h
 clear h
 have H' := Aside0.mk H
 clear H
 go_enter Tryz.func111, Tryz.ntmps111
 go_wp2
 go_loopg [8] k (fun kq v8 w' => ∃ (x8_1 : Int), v8 = .int .i64 x8_1 ∧ Aside0 (slices_Index_string_string.l0 kq l0 a1 (l0.length : Int) x8_1 = some r) ∧ Aside0 (kq ≤ k) ∧ Drawn0 w w')
 case atStart => exact ⟨(0), (by first | rfl | (simp; done) | (simp [*]; done)), H', ⟨Nat.le_refl _⟩, by repeat (first | exact Drawn0.refl _ | apply Drawn0.step)⟩
 case round =>
  clear H'
  try clear c1
  try clear p2
  obtain ⟨x8_1, rfl, HA, HK1, ⟨m1, rfl⟩⟩ := hrel
  cases gk with
  | zero => exact absurd HA.out (by simp [slices_Index_string_string.l0])
  | succ k1 =>
   have H := HA.out
   clear HA
   simp only [slices_Index_string_string.l0] at H
   by_cases c3 : x8_1 < (l0.length : Int)
   ·
    rw [if_pos c3] at H
    have c3b0 : decide (x8_1 < (l0.length : Int)) = true := decide_eq_true c3
    clear c3
    by_cases c4 : 0 ≤ x8_1
    ·
     rw [if_pos c4] at H
     have c4b0 : decide (0 ≤ x8_1) = true := decide_eq_true c4
     clear c4
     by_cases c5 : x8_1 < (l0.length : Int)
     ·
      rw [if_pos c5] at H
      have c5b0 : decide (x8_1 < (l0.length : Int)) = true := decide_eq_true c5
      clear c5
      by_cases c6 : a1.toList = (rdOf ByteArray.empty l0 x8_1).toList
      ·
       rw [if_pos c6] at H
       have c6b0 : (a1.toList == (rdOf ByteArray.empty l0 x8_1).toList) = true := beq_iff_eq.mpr c6
       have c6b1 : (a1.toList != (rdOf ByteArray.empty l0 x8_1).toList) = false := bne_eq_false_iff_eq.mpr c6
       clear c6
       obtain rfl := Option.some.inj H
       have p166 : 0 ≤ (x8_1 : Int) := of_decide_eq_true qax10
       have q166 : x8_1 < (l0.length : Int) := of_decide_eq_true qax10
       obtain ⟨ad166, e166, hx166_0⟩ := Kd.at_string HR0.out x8_1 p166 q166
       cases e166
       replace p166 := eq_true p166
       replace q166 := eq_true q166
       go_wp2
       go_ret
       exact ⟨by first | rfl | (simp; done) | (simp [*]; done), by repeat (first | exact Drawn0.refl _ | apply Drawn0.step)⟩
      ·
       rw [if_neg c6] at H
       have c6b0 : (a1.toList == (rdOf ByteArray.empty l0 x8_1).toList) = false := beq_eq_false_iff_ne.mpr c6
       have c6b1 : (a1.toList != (rdOf ByteArray.empty l0 x8_1).toList) = true := bne_iff_ne.mpr c6
       have H' := Aside0.mk H
       clear H
       have p166 : 0 ≤ (x8_1 : Int) := of_decide_eq_true qax10
       have q166 : x8_1 < (l0.length : Int) := of_decide_eq_true qax10
       obtain ⟨ad166, e166, hx166_0⟩ := Kd.at_string HR0.out x8_1 p166 q166
       cases e166
       replace p166 := eq_true p166
       replace q166 := eq_true q166
       go_wp2
       go_roundg k1
       case measure => have := HK1.out; omega
       case rel => exact ⟨(wrap64 (x8_1 + 1)), (by first | rfl | (simp; done) | (simp [*]; done)), H', ⟨by have := HK1.out; omega⟩, by repeat (first | exact Drawn0.refl _ | apply Drawn0.step)⟩
     ·
      rw [if_neg c5] at H
      exact absurd H (by simp)
    ·
     rw [if_neg c4] at H
     exact absurd H (by simp)
   ·
    rw [if_neg c3] at H
    have c3b0 : decide (x8_1 < (l0.length : Int)) = false := decide_eq_false c3
    clear c3
    obtain rfl := Option.some.inj H
    go_wp2
    go_ret
    exact ⟨by first | rfl | (simp; done) | (simp [*]; done), by repeat (first | exact Drawn0.refl _ | apply Drawn0.step)⟩


section
open Go.Proofs.YtbfndlfemhidaaaGreatDoor.Lex
namespace LR
theorem tl (l : List UInt8) : (⟨l.toArray⟩ : ByteArray).toList = l := by rw [ByteArray.toList_eq]
theorem find_le (s : List UInt8) : ∀ (l : List (List UInt8)) (i n : Nat), Li.findL s l i = some n → i ≤ n ∧ n < i + l.length
 | [], i, n, h => by cases h
 | x :: l, i, n, h => by
  unfold Li.findL at h
  split at h
  ·
   cases h
   simp
  ·
   have := find_le s l (i + 1) n h
   simp only [List.length_cons]
   omega
def idx (o : Option Nat) : Int := match o with | some n => n | none => -1
theorem index_loop (L : List (List UInt8)) (hL : L.length ≤ 1000) (s : ByteArray) : ∀ (d i k : Nat), L.length = i + d → d < k →
  slices_Index_string_string.l0 k (L.map fun x => (⟨x.toArray⟩ : ByteArray)) s (L.length : Int) (i : Int) = some (idx (Li.findL s.data.toList (L.drop i) i))
 | d, i, 0, _, hk => by omega
 | 0, i, k + 1, hd, hk => by
  rw [slices_Index_string_string.l0, if_neg (by omega), List.drop_eq_nil_of_le (by omega)]
  rfl
 | d + 1, i, k + 1, hd, hk => by
  have hlt : i < L.length := by omega
  have hr : rdOf ByteArray.empty (L.map fun x => (⟨x.toArray⟩ : ByteArray)) (i : Int) = ⟨L[i].toArray⟩ := by
   simp [rdOf, List.getD, List.getElem?_eq_getElem hlt]
  rw [slices_Index_string_string.l0, if_pos (by omega), if_pos (by omega), if_pos (by rw [List.length_map]; omega), hr, tl, ByteArray.toList_eq, List.drop_eq_getElem_cons hlt, Li.findL]
  by_cases c : s.data.toList = L[i]
  ·
   rw [if_pos c, if_pos c]
   rfl
  ·
   rw [if_neg c, if_neg c, show wrap64 ((i : Int) + 1) = ((i + 1 : Nat) : Int) by unfold wrap64; omega]
   exact index_loop L hL s d (i + 1) k (by omega) (by omega)
def REGS : List ByteArray := Li.regNames.map fun x => (⟨x.toArray⟩ : ByteArray)
theorem index_f (s : ByteArray) : slices_Index_string_string.f 40 REGS s = some (idx (Li.findL s.data.toList Li.regNames 0)) := by
 unfold slices_Index_string_string.f REGS
 have := index_loop Li.regNames (by decide) s 32 0 40 rfl (by omega)
 rw [List.length_map]
 exact this
theorem regs_row {w : World} (h : LiW.RegsAt w) : Kd.C Kd.string w (some ⟨0, 0, none⟩) 32 REGS := by
 refine Kd.C_of_reads (enc := Value.string) (d := ByteArray.empty) (h1 := fun _ => rfl) ⟨rfl, by decide, fun _ => ⟨_, rfl, fun j hj => ?_⟩⟩
 have e : (⟨0, 0, none⟩ : Addr).add j = ⟨0, j, none⟩ := by
  unfold Addr.add
  split
  ·
   rename_i h
   subst h
   rfl
  ·
   rw [Nat.zero_add]
 rw [e, h j hj]
 have hj' : j < Li.regNames.length := hj
 simp [REGS, List.getD, List.getElem?_eq_getElem hj']
theorem regs_calls (s : ByteArray) (w : World) (i : Int) (h : LiW.RegsAt w) (hm : slices_Index_string_string.f 40 REGS s = some i) :
  Calls Tryz.prog 111 #[.slice (some ⟨0, 0, none⟩) 32 32, .string s] w fun e w' => e = .returned (.int .i64 i) ∧ Drawn0 w w' :=
 slices_Index_string_string.calls 40 _ 32 REGS s _ w (regs_row h) (Nat.le_refl 32) hm
theorem itoa_dec (n : Nat) : Lib.itoa (n : Int) = decL n := by
 rw [Lib.itoa_nonneg]
 induction n using Nat.strongRecOn with
 | _ n ih =>
  rw [Lib.decDigits, decL]
  by_cases h : n < 10
  ·
   rw [dif_pos h, if_pos h]
   rfl
  ·
   rw [dif_neg h, if_neg h, ih (n / 10) (by omega)]
   rfl
theorem add_x (t : List UInt8) : ((⟨#[120]⟩ : ByteArray) ++ (⟨t.toArray⟩ : ByteArray)).toList = 120 :: t := by
 rw [ByteArray.toList_eq]
 simp [ByteArray.data_append]
def regV (s : ByteArray) : Int × Int := match Li.regL s.data.toList with | some n => ((n : Int), 0) | none => (0, 6)
set_option maxHeartbeats 4000000 in
set_option maxRecDepth 100000 in
theorem register_walk (s : ByteArray) (hs : s.size ≤ 1000000) (w : World) (hT : Lib.TabIs Tryz.prog w "internal/strconv.uint64pow10" .u64 Lib.pow10Tab) (hR : LiW.RegsAt w) :
  Calls Tryz.prog 87 #[.string s] w fun e w' => e = .returned (.tuple #[.int .i64 (regV s).1, .int .i64 (regV s).2]) ∧ Below w.heap.size w w' := by
 obtain ⟨RES, hres⟩ : ∃ r, r = regV s := ⟨_, rfl⟩
 rw [← hres]
 obtain ⟨R1, R2⟩ := RES
 have HT := Aside0.mk hT
 have HR := Aside0.mk hR
 have HI := Aside0.mk (index_f s)
 clear hT hR
 unfold regV Li.regL at hres
 cases hf : Li.findL s.data.toList Li.regNames 0 with
 | some n =>
  rw [hf] at hres HI
  simp only [Prod.mk.injEq] at hres
  obtain ⟨rfl, rfl⟩ := hres
  have hn : n < 32 := Nat.lt_of_lt_of_le (find_le _ _ _ _ hf).2 (by decide)
  have d0 : decide (0 ≤ (n : Int)) = true := decide_eq_true (by omega)
  clear hf
  go_enter Tryz.func87, Tryz.ntmps87
  go_wp2_with (first | (go_at_call 111; (with_reducible refine (regs_calls s _ _ HR.out HI.out).mono ?_); rintro e w1 ⟨rfl, hb⟩; have HB := Aside0.mk (LexW.below_drawn hb); clear hb))
  go_ret2
  exact ⟨rfl, HB.out⟩
 | none =>
  rw [hf] at hres HI
  clear hf
  simp only at hres
  by_cases c8 : s.data.toList = [102, 112]
  ·
   rw [if_pos c8] at hres
   simp only [Prod.mk.injEq] at hres
   obtain ⟨rfl, rfl⟩ := hres
   have e8 : (s.toList == ([102, 112] : List UInt8)) = true := by rw [ByteArray.toList_eq]; exact beq_iff_eq.2 c8
   clear c8
   go_enter Tryz.func87, Tryz.ntmps87
   go_wp2_with (first | (go_at_call 111; (with_reducible refine (regs_calls s _ _ HR.out HI.out).mono ?_); rintro e w1 ⟨rfl, hb⟩; have HB := Aside0.mk (LexW.below_drawn hb); clear hb))
   go_ret2
   exact ⟨rfl, HB.out⟩
  ·
   rw [if_neg c8] at hres
   have e8 : (s.toList == ([102, 112] : List UInt8)) = false := by rw [ByteArray.toList_eq]; exact beq_eq_false_iff_ne.2 c8
   clear c8
   have HRES := Aside0.mk hres
   have HSZ := Aside0.mk hs
   clear hres hs
   go_enter Tryz.func87, Tryz.ntmps87
   go_wp2_with (first | (go_at_call 111; (with_reducible refine (regs_calls s _ _ HR.out HI.out).mono ?_); rintro e w1 ⟨rfl, hb⟩; have HB := Aside0.mk (LexW.below_drawn hb); clear hb))
   go_loopw [14] (fun v14 wx => ∃ i : Nat, v14 = .int .i64 (i : Int) ∧ Aside0 (i ≤ 32 ∧ Li.xReg s.data.toList (32 - i) i = Li.xReg s.data.toList 32 0) ∧ Aside0 (Below w.heap.size w wx)) (fun v14 _ => match v14 with | .int _ i => 32 - i.toNat | _ => 0)
   case atStart => exact ⟨0, rfl, ⟨by omega, rfl⟩, HB⟩
   case round =>
    clear HB
    obtain ⟨i, rfl, HI2, HB⟩ := hrel
    by_cases hlt : i < 32
    ·
     have d0 : decide ((i : Int) < 32) = true := decide_eq_true (by omega)
     have hi := HI2.out.1
     have hx := HI2.out.2
     obtain ⟨d, hd⟩ : ∃ d, 32 - i = d + 1 := ⟨31 - i, by omega⟩
     rw [hd, Li.xReg] at hx
     have hd2 : 32 - (i + 1) = d := by omega
     obtain ⟨t, ht⟩ : ∃ t : ByteArray, t = ⟨(Lex.decL i).toArray⟩ := ⟨_, rfl⟩
     have hI : strconv_Itoa.f (i : Int) = some t := by unfold strconv_Itoa.f; rw [if_pos (by omega), ht, itoa_dec]
     have hsz : t.size ≤ 21 := by
      have := Lib.itoa_length_le (i : Int) (by omega) (by omega)
      rw [itoa_dec] at this
      rw [ht]
      show (Lex.decL i).toArray.size ≤ 21
      simpa using this
     have hcmp : (s.toList == ((⟨#[120]⟩ : ByteArray) ++ t).toList) = decide (s.data.toList = 120 :: Lex.decL i) := by
      rw [ht, add_x, ByteArray.toList_eq]
      by_cases h : s.data.toList = 120 :: Lex.decL i
      ·
       rw [decide_eq_true h, h]; simp
      ·
       rw [decide_eq_false h]; simp [h]
     have HIT := Aside0.mk hI
     have z1 : 1 + t.size ≤ 9223372036854775807 := by omega
     have z1b := eq_true z1
     have z1c : decide (1 + t.size ≤ 9223372036854775807) = true := decide_eq_true z1
     have z1d : (9223372036854775807 < 1 + t.size) = False := eq_false (Nat.not_lt.2 z1)
     have hw : wrap64 ((i : Int) + 1) = ((i + 1 : Nat) : Int) := by unfold wrap64; omega
     clear z1 hI ht hsz hi
     by_cases hc : s.data.toList = 120 :: Lex.decL i
     ·
      rw [if_pos hc] at hx
      rw [decide_eq_true hc] at hcmp
      have hr := HRES.out
      rw [← hx] at hr
      simp only [Prod.mk.injEq] at hr
      obtain ⟨rfl, rfl⟩ := hr
      clear hc hx HRES HI2 hd hd2 hlt
      go_wp2_with (first | (go_at_call 46; have hT1 := Lib.tabBelow_of_tabIs HT.out _ HB.out; (with_reducible refine (strconv_Itoa.calls _ _ _ hT1 HIT.out).mono ?_); rintro e w2 ⟨rfl, hb⟩; have HB2 := Aside0.mk (below_step HB.out hb); clear hb))
      go_ret2
      exact ⟨rfl, HB2.out⟩
     ·
      rw [if_neg hc] at hx
      rw [decide_eq_false hc] at hcmp
      have HX : Aside0 (Li.xReg s.data.toList (32 - (i + 1)) (i + 1) = Li.xReg s.data.toList 32 0) := ⟨by rw [hd2]; exact hx⟩
      have HLT := Aside0.mk (And.intro hlt hd2)
      clear hc hx HI2 hd hd2 hlt
      go_wp2_with (first | (go_at_call 46; have hT1 := Lib.tabBelow_of_tabIs HT.out _ HB.out; (with_reducible refine (strconv_Itoa.calls _ _ _ hT1 HIT.out).mono ?_); rintro e w2 ⟨rfl, hb⟩; have HB2 := Aside0.mk (below_step HB.out hb); clear hb))
      go_roundw
      case rel => exact ⟨i + 1, by rw [hw], ⟨by have := HLT.out.1; omega, HX.out⟩, HB2⟩
      case measure => have := HLT.out.1; simp only [hw]; omega
    ·
     have d0 : decide ((i : Int) < 32) = false := decide_eq_false (by omega)
     have hi : i = 32 := by have := HI2.out.1; omega
     have hx : Li.xReg s.data.toList 32 0 = none := by rw [← HI2.out.2, hi]; rfl
     have HX := Aside0.mk hx
     clear hx hi hlt HI2
     go_wp2
     go_ret2
     have hr := HRES.out
     rw [HX.out] at hr
     simp only [Prod.mk.injEq] at hr
     obtain ⟨rfl, rfl⟩ := hr
     exact ⟨rfl, HB.out⟩
end LR
def line_Register.f (a0 : ByteArray) : Option (Int × Int) := if a0.size ≤ 1000000 then some (LR.regV a0) else none
theorem line_Register.calls (a0 : ByteArray) (r1 r2 : Int) (w : World) (hT : Lib.TabIs Tryz.prog w "internal/strconv.uint64pow10" .u64 Lib.pow10Tab) (hG : LiW.RegsAt w) (h : line_Register.f a0 = some (r1, r2)) :
  Calls Tryz.prog 87 #[.string a0] w fun e w' => e = .returned (.tuple #[.int .i64 r1, .int .i64 r2]) ∧ Below w.heap.size w w' := by
 unfold line_Register.f at h
 by_cases c : a0.size ≤ 1000000
 ·
  rw [if_pos c] at h
  have := LR.register_walk a0 c w hT hG
  rw [Option.some.inj h] at this
  exact this
 ·
  rw [if_neg c] at h
  cases h
end

def line_sum.f (a0_0 : ByteArray) (a0_1 : ByteArray) (a0_2 : Int) (a0_3 : Int) : Option (Bool) := (line_Register.f a0_0).bind fun bt168 => (if a0_3 > 0 then (some true) else (some (bt168.2 != 0)))
set_option maxHeartbeats 8000000 in
set_option maxRecDepth 100000 in
theorem line_sum.calls (a0_0 : ByteArray) (a0_1 : ByteArray) (a0_2 : Int) (a0_3 : Int) (r : Bool) (w : World) (hT : Lib.TabIs Tryz.prog w "internal/strconv.uint64pow10" .u64 Lib.pow10Tab) (hG : LiW.RegsAt w) (h : line_sum.f a0_0 a0_1 a0_2 a0_3 = some r) :
  Calls Tryz.prog 52 #[.agg #[.string a0_0, .string a0_1, .int .i64 a0_2, .int .u8 a0_3]] w fun e w' => e = .returned (.bool r) ∧ Below w.heap.size w w' := by
 have hu38 := Tryz.underlying38
 have HT := Aside0.mk hT
 clear hT
 have HG_ := Aside0.mk hG
 clear hG
 have HB := Aside0.mk (Below.refl w.heap.size w)
 have H : ((line_Register.f a0_0).bind fun bt168 => (if a0_3 > 0 then (some true) else (some (bt168.2 != 0)))) = some r := h
 clear h
 replace H := Option.bind_eq_some_iff.mp H
 obtain ⟨⟨t168, t169⟩, A20, H⟩ := H
 replace H : (if a0_3 > 0 then (some true) else (some (t169 != 0))) = some r := H
 have A2 := Aside0.mk A20
 clear A20
 by_cases c3 : a0_3 > 0
 ·
  rw [if_pos c3] at H
  have c3b0 : decide (0 < a0_3) = true := decide_eq_true c3
  clear c3
  obtain rfl := Option.some.inj H
  go_enter Tryz.func52, Tryz.ntmps52
  go_wp2_with (first | ((with_reducible refine gate_dst (N := 1) rfl ?_); refine box_event ?hg (N := 1) ?hd (cs := #[.string a0_0, .string a0_1, .int .i64 a0_2, .int .u8 a0_3]) (t := 38) ?hr ?_; (case hd => rfl); (case hg => rfl); (case hr => exact qax11); intro gb167 hg w4 hbox hb; have n0_ := Aside0.mk (below_step qax7 hb); have n1_ := Aside0.mk (hbox); have n2_ := Aside0.mk ((by rw [hg]; exact (below_size qax7) : w.heap.size ≤ gb167)); have n3_ := Aside0.mk ((by rw [hg]; exact (below_size qax7) : w.heap.size ≤ gb167)); clear HB; have HB := n0_; have BK167 := n1_; have GW167 := n2_; have GE167 := n3_; clear n0_ n1_ n2_ n3_; clear hb hbox hg; have hcz5_0 := bc0 BK167.out; have hcz5_1 := bc1 BK167.out; have hcz5_2 := bc2 BK167.out; have hcz5_3 := bc3 BK167.out; have hfz5_0 := blk_frozen BK167.out 0; have hfz5_1 := blk_frozen BK167.out 1; have hfz5_2 := blk_frozen BK167.out 2; have hfz5_3 := blk_frozen BK167.out 3) | ((with_reducible refine gate_callee (f := 87) rfl ?_); refine goesL_ (some 8) rfl rfl Tryz.func87 (by kernel_rfl) rfl #[.string a0_0] rfl qax6 ?_; (with_reducible refine (line_Register.calls a0_0 t168 t169 _ ?side1 ?side2 A2.out).mono ?_); (case side1 => exact qax1); (case side2 => exact qax3); rintro e w6 ⟨rfl, hb⟩; refine ⟨_, rfl, ?_⟩; have n0_ := Aside0.mk (blk_below (g := gb167) (o := .cells #[.string a0_0, .string a0_1, .int .i64 a0_2, .int .u8 a0_3] 38 (0, 0)) qax9 hb); have n1_ := Aside0.mk (below_step qax5 hb); clear BK167; clear HB; have BK167 := n0_; have HB := n1_; clear n0_ n1_; (try clear hb); (try clear hb2); (try clear hk); (try clear hi); have hcz7_0 := bc0 BK167.out; have hcz7_1 := bc1 BK167.out; have hcz7_2 := bc2 BK167.out; have hcz7_3 := bc3 BK167.out; have hfz7_0 := blk_frozen BK167.out 0; have hfz7_1 := blk_frozen BK167.out 1; have hfz7_2 := blk_frozen BK167.out 2; have hfz7_3 := blk_frozen BK167.out 3))
  go_ret
  exact ⟨by first | rfl | (simp [errW_none, errW_some] <;> rfl) | (simp [*, errW_none, errW_some] <;> rfl), by repeat (first | (with_reducible first | exact HB.out | apply below_alloc | apply pw_below_drewN | apply below_drew1 | refine below_set ?_ GE167.out) | exact HB.out)⟩
 ·
  rw [if_neg c3] at H
  have c3b0 : decide (0 < a0_3) = false := decide_eq_false c3
  clear c3
  obtain rfl := Option.some.inj H
  go_enter Tryz.func52, Tryz.ntmps52
  go_wp2_with (first | ((with_reducible refine gate_dst (N := 1) rfl ?_); refine box_event ?hg (N := 1) ?hd (cs := #[.string a0_0, .string a0_1, .int .i64 a0_2, .int .u8 a0_3]) (t := 38) ?hr ?_; (case hd => rfl); (case hg => rfl); (case hr => exact qax11); intro gb167 hg w8 hbox hb; have n0_ := Aside0.mk (below_step qax7 hb); have n1_ := Aside0.mk (hbox); have n2_ := Aside0.mk ((by rw [hg]; exact (below_size qax7) : w.heap.size ≤ gb167)); have n3_ := Aside0.mk ((by rw [hg]; exact (below_size qax7) : w.heap.size ≤ gb167)); clear HB; have HB := n0_; have BK167 := n1_; have GW167 := n2_; have GE167 := n3_; clear n0_ n1_ n2_ n3_; clear hb hbox hg; have hcz9_0 := bc0 BK167.out; have hcz9_1 := bc1 BK167.out; have hcz9_2 := bc2 BK167.out; have hcz9_3 := bc3 BK167.out; have hfz9_0 := blk_frozen BK167.out 0; have hfz9_1 := blk_frozen BK167.out 1; have hfz9_2 := blk_frozen BK167.out 2; have hfz9_3 := blk_frozen BK167.out 3) | ((with_reducible refine gate_callee (f := 87) rfl ?_); refine goesL_ (some 8) rfl rfl Tryz.func87 (by kernel_rfl) rfl #[.string a0_0] rfl qax6 ?_; (with_reducible refine (line_Register.calls a0_0 t168 t169 _ ?side1 ?side2 A2.out).mono ?_); (case side1 => exact qax1); (case side2 => exact qax3); rintro e w10 ⟨rfl, hb⟩; refine ⟨_, rfl, ?_⟩; have n0_ := Aside0.mk (blk_below (g := gb167) (o := .cells #[.string a0_0, .string a0_1, .int .i64 a0_2, .int .u8 a0_3] 38 (0, 0)) qax9 hb); have n1_ := Aside0.mk (below_step qax5 hb); clear BK167; clear HB; have BK167 := n0_; have HB := n1_; clear n0_ n1_; (try clear hb); (try clear hb2); (try clear hk); (try clear hi); have hcz11_0 := bc0 BK167.out; have hcz11_1 := bc1 BK167.out; have hcz11_2 := bc2 BK167.out; have hcz11_3 := bc3 BK167.out; have hfz11_0 := blk_frozen BK167.out 0; have hfz11_1 := blk_frozen BK167.out 1; have hfz11_2 := blk_frozen BK167.out 2; have hfz11_3 := blk_frozen BK167.out 3))
  go_ret
  exact ⟨by first | rfl | (simp [errW_none, errW_some] <;> rfl) | (simp [*, errW_none, errW_some] <;> rfl), by repeat (first | (with_reducible first | exact HB.out | apply below_alloc | apply pw_below_drewN | apply below_drew1 | refine below_set ?_ GE167.out) | exact HB.out)⟩

end Go.Proofs.YtbfndlfemhidaaaGreatDoor.P
