-- Written by pext.py, a program of this session, over the kit's print: a function's contract
import Derived.Test.YtomabnfeipobnaaPx0
import Derived.Test.YtomabnfeipobnaaPx8
import Derived.Test.YtomabnfeipobnaaPx11
namespace Go.Proofs.Ytomabnfeipobnaa.P
open Go.RowKit Go.Proofs.YtomabnfeipobnaaW.PrintWords Go.Proofs.YtomabnfeipobnaaW.PrintLast Go.Proofs.YtomabnfeipobnaaW.PrintMore
attribute [local go_sem] max2_int min2_int max_two min_two max_three min_three max_four min_four   -- for this text's walks alone
set_option linter.unusedVariables false
set_option linter.unusedSimpArgs false

/-! ### quoinlaw10_SymWhere: function 16 -/
def quoinlaw10_SymWhere.j0 : Nat → Int → Bool → Int → Bool → ByteArray → Int → Bool → Int → Int → Int → Option (Bool)
 | 0, _, _, _, _, _, _, _, _, _, _ => none
 | k + 1, x1, x5, x6, x17, x623000, x623001, x623002, x623003, x623004, x623005 => if x17 = true then (if x5 = true then (if x1 = 16 then (some true) else (some (x6 == 2))) else (none)) else ((sym_Check.f k x623000 x623001 x623002 x623003 x623004 x623005 (wrap64 (x1 + 1))).bind fun t625 => (if x6 = 0 then (if x5 = true then (some (t625 == 0)) else (none)) else (if x5 = true then (if x6 = 8 then (if t625 = 8 then (some true) else (if t625 = 0 then (some (x623003 == (wrap64 (x1 + 1)))) else (none))) else (none)) else (none))))
def quoinlaw10_SymWhere.f (k : Nat) (a0_0 : ByteArray) (a0_1 : Int) (a0_2 : Bool) (a0_3 : Int) (a0_4 : Int) (a0_5 : Int) (a1 : Int) : Option (Bool) := (quoinlaw10_alive.f k).bind fun t623 => ((sym_Check.f k a0_0 a0_1 a0_2 a0_3 a0_4 a0_5 a1).bind fun t624 => (if a1 < 0 then (quoinlaw10_SymWhere.j0 k a1 t623 t624 true a0_0 a0_1 a0_2 a0_3 a0_4 a0_5) else (quoinlaw10_SymWhere.j0 k a1 t623 t624 (decide (a1 > 15)) a0_0 a0_1 a0_2 a0_3 a0_4 a0_5)))
theorem quoinlaw10_SymWhere.mono_l : ∀ k, (∀ y0 y1 y2 y3 y4 y5 y6 y7 y8 y9, LeO (quoinlaw10_SymWhere.j0 k y0 y1 y2 y3 y4 y5 y6 y7 y8 y9) (quoinlaw10_SymWhere.j0 (k + 1) y0 y1 y2 y3 y4 y5 y6 y7 y8 y9))
 | 0 => fun _ _ _ _ _ _ _ _ _ _ r h => by simp [quoinlaw10_SymWhere.j0] at h
 | k + 1 => by
  have ih0 := quoinlaw10_SymWhere.mono_l k
  ·
   intro y0 y1 y2 y3 y4 y5 y6 y7 y8 y9
   unfold quoinlaw10_SymWhere.j0
   repeat' first
   | (with_reducible exact ih0 _ _ _ _ _ _ _ _ _ _)
   | (with_reducible exact quoinlaw10_alive.mono _)
   | (with_reducible exact sym_Check.mono _ _ _ _ _ _ _ _)
   | (with_reducible exact LeO.refl _)
   | (with_reducible exact LeO.none _)
   | (with_reducible refine LeO.ite ?_ ?_)
   | (with_reducible refine LeO.bind ?_ (fun _ => ?_))
   | exact ih0 _ _ _ _ _ _ _ _ _ _
   | exact quoinlaw10_alive.mono _
   | exact sym_Check.mono _ _ _ _ _ _ _ _
   | exact LeO.none _
   | refine LeO.ite ?_ ?_
   | refine LeO.bind ?_ (fun _ => ?_)
theorem quoinlaw10_SymWhere.mono : ∀ a0 a1 a2 a3 a4 a5 a6 k, LeO (quoinlaw10_SymWhere.f k a0 a1 a2 a3 a4 a5 a6) (quoinlaw10_SymWhere.f (k + 1) a0 a1 a2 a3 a4 a5 a6) := by
 intro a0 a1 a2 a3 a4 a5 a6 k
 have ih0 := quoinlaw10_SymWhere.mono_l k
 unfold quoinlaw10_SymWhere.f
 repeat' first
   | (with_reducible exact ih0 _ _ _ _ _ _ _ _ _ _)
   | (with_reducible exact quoinlaw10_alive.mono _)
   | (with_reducible exact sym_Check.mono _ _ _ _ _ _ _ _)
   | (with_reducible exact LeO.refl _)
   | (with_reducible exact LeO.none _)
   | (with_reducible refine LeO.ite ?_ ?_)
   | (with_reducible refine LeO.bind ?_ (fun _ => ?_))
   | exact ih0 _ _ _ _ _ _ _ _ _ _
   | exact quoinlaw10_alive.mono _
   | exact sym_Check.mono _ _ _ _ _ _ _ _
   | exact LeO.none _
   | refine LeO.ite ?_ ?_
   | refine LeO.bind ?_ (fun _ => ?_)
set_option maxHeartbeats 8000000 in
set_option maxRecDepth 100000 in
theorem quoinlaw10_SymWhere.calls (k : Nat) (a0_0 : ByteArray) (a0_1 : Int) (a0_2 : Bool) (a0_3 : Int) (a0_4 : Int) (a0_5 : Int) (a1 : Int) (r : Bool) (w : World) (h : quoinlaw10_SymWhere.f k a0_0 a0_1 a0_2 a0_3 a0_4 a0_5 a1 = some r) :
  Calls Try.prog 16 #[.agg #[.string a0_0, .int .u8 a0_1, .bool a0_2, .int .i64 a0_3, .int .i64 a0_4, .int .i64 a0_5], .int .i64 a1] w fun e w' => e = .returned (.bool r) ∧ Below w.heap.size w w' := by
 have hu64 := Try.underlying64
 have HB := Aside0.mk (Below.refl w.heap.size w)
 have H : ((quoinlaw10_alive.f k).bind fun t623 => ((sym_Check.f k a0_0 a0_1 a0_2 a0_3 a0_4 a0_5 a1).bind fun t624 => (if a1 < 0 then (quoinlaw10_SymWhere.j0 k a1 t623 t624 true a0_0 a0_1 a0_2 a0_3 a0_4 a0_5) else (quoinlaw10_SymWhere.j0 k a1 t623 t624 (decide (a1 > 15)) a0_0 a0_1 a0_2 a0_3 a0_4 a0_5)))) = some r := h
 clear h
 replace H := Option.bind_eq_some_iff.mp H
 obtain ⟨t623, A30, H⟩ := H
 replace H : ((sym_Check.f k a0_0 a0_1 a0_2 a0_3 a0_4 a0_5 a1).bind fun t624 => (if a1 < 0 then (quoinlaw10_SymWhere.j0 k a1 t623 t624 true a0_0 a0_1 a0_2 a0_3 a0_4 a0_5) else (quoinlaw10_SymWhere.j0 k a1 t623 t624 (decide (a1 > 15)) a0_0 a0_1 a0_2 a0_3 a0_4 a0_5))) = some r := H
 have A3 := Aside0.mk A30
 clear A30
 replace H := Option.bind_eq_some_iff.mp H
 obtain ⟨t624, A40, H⟩ := H
 replace H : (if a1 < 0 then (quoinlaw10_SymWhere.j0 k a1 t623 t624 true a0_0 a0_1 a0_2 a0_3 a0_4 a0_5) else (quoinlaw10_SymWhere.j0 k a1 t623 t624 (decide (a1 > 15)) a0_0 a0_1 a0_2 a0_3 a0_4 a0_5)) = some r := H
 have A4 := Aside0.mk A40
 clear A40
 have HC5 := Aside0.mk H
 clear H
 go_enter Try.func16, Try.ntmps16
 go_upto_region 3 with (first | ((with_reducible refine gate_dst (N := 2) rfl ?_); refine box_event ?hg (N := 2) ?hd (cs := #[.string a0_0, .int .u8 a0_1, .bool a0_2, .int .i64 a0_3, .int .i64 a0_4, .int .i64 a0_5]) (t := 64) ?hr ?_; (case hd => rfl); (case hg => rfl); (case hr => first | (go_simp; done) | (go_simp; rfl)); intro gb622 hg w6 hbox hb; have n0_ := Aside0.mk (below_step (by repeat (first | (with_reducible first | exact HB.out | apply below_alloc | apply pw_below_drewN | apply below_drew1) | exact HB.out)) hb); have n1_ := Aside0.mk (hbox); have n2_ := Aside0.mk ((by rw [hg]; exact (below_size (by repeat (first | (with_reducible first | exact HB.out | apply below_alloc | apply pw_below_drewN | apply below_drew1) | exact HB.out))) : w.heap.size ≤ gb622)); have n3_ := Aside0.mk ((by rw [hg]; exact (below_size (by repeat (first | (with_reducible first | exact HB.out | apply below_alloc | apply pw_below_drewN | apply below_drew1) | exact HB.out))) : w.heap.size ≤ gb622)); clear HB; have HB := n0_; have BK622 := n1_; have GW622 := n2_; have GE622 := n3_; clear n0_ n1_ n2_ n3_; clear hb hbox hg) | ((with_reducible refine gate_callee (f := 49) rfl ?_); refine goesL_ (some 8) rfl rfl Try.func49 (by kernel_rfl) rfl #[] rfl (by (try simp only [List.map_toArray, List.map_cons, List.map_nil]); first | done | rfl | (simp only [List.length_drop, List.length_take]; rfl)) ?_; (with_reducible refine (quoinlaw10_alive.calls k  t623 _ A3.out).mono ?_); rintro e w7 ⟨rfl, hb⟩; refine ⟨_, rfl, ?_⟩; have n0_ := Aside0.mk (blk_below (g := gb622) (o := .cells #[.string a0_0, .int .u8 a0_1, .bool a0_2, .int .i64 a0_3, .int .i64 a0_4, .int .i64 a0_5] 64 (0, 0)) (by (with_reducible repeat (first | refine blk_drewN ?_ _ | refine blk_drew ?_ | refine blk_alloc ?_ _)); exact BK622.out) hb); have n1_ := Aside0.mk (below_step (by repeat (first | (with_reducible first | exact HB.out | apply below_alloc | apply pw_below_drewN | apply below_drew1 | refine below_set ?_ GE622.out) | exact HB.out)) hb); clear BK622; clear HB; have BK622 := n0_; have HB := n1_; clear n0_ n1_; (try clear hb); (try clear hb2); (try clear hk); (try clear hi); have hcz8_0 : w7.cell? ⟨gb622, 0, none⟩ = some (.string a0_0) := (blk_cell BK622.out 0).trans rfl; have hcz8_1 : w7.cell? ⟨gb622, 1, none⟩ = some (.int .u8 a0_1) := (blk_cell BK622.out 1).trans rfl; have hcz8_2 : w7.cell? ⟨gb622, 2, none⟩ = some (.bool a0_2) := (blk_cell BK622.out 2).trans rfl; have hcz8_3 : w7.cell? ⟨gb622, 3, none⟩ = some (.int .i64 a0_3) := (blk_cell BK622.out 3).trans rfl; have hcz8_4 : w7.cell? ⟨gb622, 4, none⟩ = some (.int .i64 a0_4) := (blk_cell BK622.out 4).trans rfl; have hcz8_5 : w7.cell? ⟨gb622, 5, none⟩ = some (.int .i64 a0_5) := (blk_cell BK622.out 5).trans rfl; have hfz8_0 := blk_frozen BK622.out 0; have hfz8_1 := blk_frozen BK622.out 1; have hfz8_2 := blk_frozen BK622.out 2; have hfz8_3 := blk_frozen BK622.out 3; have hfz8_4 := blk_frozen BK622.out 4; have hfz8_5 := blk_frozen BK622.out 5) | ((with_reducible refine gate_callee (f := 50) rfl ?_); refine goesL_ (some 11) rfl rfl Try.func50 (by kernel_rfl) rfl #[.agg #[.string a0_0, .int .u8 a0_1, .bool a0_2, .int .i64 a0_3, .int .i64 a0_4, .int .i64 a0_5], .int .i64 a1] rfl (by (try simp only [List.map_toArray, List.map_cons, List.map_nil]); first | done | rfl | (simp only [List.length_drop, List.length_take]; rfl)) ?_; (with_reducible refine (sym_Check.calls k a0_0 a0_1 a0_2 a0_3 a0_4 a0_5 a1 t624 _ A4.out).mono ?_); rintro e w9 ⟨rfl, hb⟩; refine ⟨_, rfl, ?_⟩; have n0_ := Aside0.mk (blk_below (g := gb622) (o := .cells #[.string a0_0, .int .u8 a0_1, .bool a0_2, .int .i64 a0_3, .int .i64 a0_4, .int .i64 a0_5] 64 (0, 0)) (by (with_reducible repeat (first | refine blk_drewN ?_ _ | refine blk_drew ?_ | refine blk_alloc ?_ _)); exact BK622.out) hb); have n1_ := Aside0.mk (below_step (by repeat (first | (with_reducible first | exact HB.out | apply below_alloc | apply pw_below_drewN | apply below_drew1 | refine below_set ?_ GE622.out) | exact HB.out)) hb); clear BK622; clear HB; have BK622 := n0_; have HB := n1_; clear n0_ n1_; (try clear hb); (try clear hb2); (try clear hk); (try clear hi)))
 (try simp only [Act.put, List.setIfInBounds_toArray, List.set_cons_zero, List.set_cons_succ])
 go_cut [17] (fun v17 wc => ∃ (kq : Nat) (x17_4 : Bool), v17 = .bool x17_4 ∧ Aside0 (quoinlaw10_SymWhere.j0 kq a1 t623 t624 x17_4 a0_0 a0_1 a0_2 a0_3 a0_4 a0_5 = some r) ∧ Aside0 (kq ≤ k) ∧ Aside0 (wc.heap[gb622]? = some (.cells #[.string a0_0, .int .u8 a0_1, .bool a0_2, .int .i64 a0_3, .int .i64 a0_4, .int .i64 a0_5] 64 (0, 0))) ∧ Aside0 (Below w.heap.size w wc))
 case first =>
  have H := HC5.out
  clear HC5
  by_cases c10 : a1 < 0
  ·
   rw [if_pos c10] at H
   have c10b0 : decide (a1 < 0) = true := decide_eq_true c10
   clear c10
   (first | rw [c10b0] | (simp only [i64_w, i32_w]; rw [c10b0]) | skip)
   have H' := Aside0.mk H
   clear H
   go_wp2
   go_meet
   case rel => exact ⟨_, (true), (by first | rfl | (simp; done) | (simp [*]; done)), H', ⟨by first | omega | exact Nat.le_refl _⟩, ⟨by (with_reducible repeat (first | refine blk_drewN ?_ _ | refine blk_drew ?_ | refine blk_alloc ?_ _)); exact BK622.out⟩, ⟨by repeat (first | (with_reducible first | exact HB.out | apply below_alloc | apply pw_below_drewN | apply below_drew1 | refine below_set ?_ GE622.out) | exact HB.out)⟩⟩
  ·
   rw [if_neg c10] at H
   have c10b0 : decide (a1 < 0) = false := decide_eq_false c10
   clear c10
   (first | rw [c10b0] | (simp only [i64_w, i32_w]; rw [c10b0]) | skip)
   have H' := Aside0.mk H
   clear H
   go_wp2
   go_meet
   case rel => exact ⟨_, (decide (a1 > 15)), (by first | rfl | (simp; done) | (simp [*]; done)), H', ⟨by first | omega | exact Nat.le_refl _⟩, ⟨by (with_reducible repeat (first | refine blk_drewN ?_ _ | refine blk_drew ?_ | refine blk_alloc ?_ _)); exact BK622.out⟩, ⟨by repeat (first | (with_reducible first | exact HB.out | apply below_alloc | apply pw_below_drewN | apply below_drew1 | refine below_set ?_ GE622.out) | exact HB.out)⟩⟩
 case rest =>
  clear HC5
  try clear c1
  try clear p2
  try clear c4
  try clear c5
  try clear c10
  try clear c10b0
  try clear hcz8_0
  try clear hcz8_1
  try clear hcz8_2
  try clear hcz8_3
  try clear hcz8_4
  try clear hcz8_5
  try clear hfz8_0
  try clear hfz8_1
  try clear hfz8_2
  try clear hfz8_3
  try clear hfz8_4
  try clear hfz8_5
  obtain ⟨kq, x17_4, rfl, HA, HJ4, BK622, HB⟩ := hcut
  cases kq with
  | zero => exact absurd HA.out (by simp [quoinlaw10_SymWhere.j0])
  | succ kj4 =>
   have H := HA.out
   clear HA
   simp only [quoinlaw10_SymWhere.j0] at H
   by_cases c11 : x17_4 = true
   ·
    subst c11
    have H1 : (if t623 = true then (if a1 = 16 then (some true) else (some (t624 == 2))) else (none)) = some r := by rw [if_pos rfl] at H; exact H
    clear H
    have H := H1
    clear H1
    by_cases c12 : t623 = true
    ·
     subst c12
     have H1 : (if a1 = 16 then (some true) else (some (t624 == 2))) = some r := by rw [if_pos rfl] at H; exact H
     clear H
     have H := H1
     clear H1
     by_cases c13 : a1 = 16
     ·
      rw [if_pos c13] at H
      have c13b0 : (a1 == 16) = true := beq_iff_eq.mpr c13
      have c13b1 : (a1 != 16) = false := bne_eq_false_iff_eq.mpr c13
      clear c13
      obtain rfl := Option.some.inj H
      go_wp2
      go_ret
      exact ⟨by first | rfl | (simp [errW_none, errW_some] <;> rfl) | (simp [*, errW_none, errW_some] <;> rfl), by repeat (first | (with_reducible first | exact HB.out | apply below_alloc | apply pw_below_drewN | apply below_drew1 | refine below_set ?_ GE622.out) | exact HB.out)⟩
     ·
      rw [if_neg c13] at H
      have c13b0 : (a1 == 16) = false := beq_eq_false_iff_ne.mpr c13
      have c13b1 : (a1 != 16) = true := bne_iff_ne.mpr c13
      obtain rfl := Option.some.inj H
      go_wp2
      go_ret
      exact ⟨by first | rfl | (simp [errW_none, errW_some] <;> rfl) | (simp [*, errW_none, errW_some] <;> rfl), by repeat (first | (with_reducible first | exact HB.out | apply below_alloc | apply pw_below_drewN | apply below_drew1 | refine below_set ?_ GE622.out) | exact HB.out)⟩
    ·
     replace c12 := Bool.eq_false_iff.mpr c12
     subst c12
     have H1 : (none) = some r := by rw [if_neg (show ¬ (false = true) by decide)] at H; exact H
     clear H
     have H := H1
     clear H1
     exact absurd H (by simp)
   ·
    replace c11 := Bool.eq_false_iff.mpr c11
    subst c11
    have H1 : ((sym_Check.f kj4 a0_0 a0_1 a0_2 a0_3 a0_4 a0_5 (wrap64 (a1 + 1))).bind fun t625 => (if t624 = 0 then (if t623 = true then (some (t625 == 0)) else (none)) else (if t623 = true then (if t624 = 8 then (if t625 = 8 then (some true) else (if t625 = 0 then (some (a0_3 == (wrap64 (a1 + 1)))) else (none))) else (none)) else (none)))) = some r := by rw [if_neg (show ¬ (false = true) by decide)] at H; exact H
    clear H
    have H := H1
    clear H1
    replace H := Option.bind_eq_some_iff.mp H
    obtain ⟨t625, A140, H⟩ := H
    replace H : (if t624 = 0 then (if t623 = true then (some (t625 == 0)) else (none)) else (if t623 = true then (if t624 = 8 then (if t625 = 8 then (some true) else (if t625 = 0 then (some (a0_3 == (wrap64 (a1 + 1)))) else (none))) else (none)) else (none))) = some r := H
    have A14 := Aside0.mk A140
    clear A140
    by_cases c15 : t624 = 0
    ·
     rw [if_pos c15] at H
     have c15b0 : (t624 == 0) = true := beq_iff_eq.mpr c15
     have c15b1 : (t624 != 0) = false := bne_eq_false_iff_eq.mpr c15
     clear c15
     by_cases c16 : t623 = true
     ·
      subst c16
      have H1 : (some (t625 == 0)) = some r := by rw [if_pos rfl] at H; exact H
      clear H
      have H := H1
      clear H1
      obtain rfl := Option.some.inj H
      have hcz17_0 : wc.cell? ⟨gb622, 0, none⟩ = some (.string a0_0) := (blk_cell BK622.out 0).trans rfl
      have hcz17_1 : wc.cell? ⟨gb622, 1, none⟩ = some (.int .u8 a0_1) := (blk_cell BK622.out 1).trans rfl
      have hcz17_2 : wc.cell? ⟨gb622, 2, none⟩ = some (.bool a0_2) := (blk_cell BK622.out 2).trans rfl
      have hcz17_3 : wc.cell? ⟨gb622, 3, none⟩ = some (.int .i64 a0_3) := (blk_cell BK622.out 3).trans rfl
      have hcz17_4 : wc.cell? ⟨gb622, 4, none⟩ = some (.int .i64 a0_4) := (blk_cell BK622.out 4).trans rfl
      have hcz17_5 : wc.cell? ⟨gb622, 5, none⟩ = some (.int .i64 a0_5) := (blk_cell BK622.out 5).trans rfl
      have hfz17_0 := blk_frozen BK622.out 0
      have hfz17_1 := blk_frozen BK622.out 1
      have hfz17_2 := blk_frozen BK622.out 2
      have hfz17_3 := blk_frozen BK622.out 3
      have hfz17_4 := blk_frozen BK622.out 4
      have hfz17_5 := blk_frozen BK622.out 5
      go_wp2_with (first | ((with_reducible refine gate_callee (f := 50) rfl ?_); refine goesL_ (some 30) rfl rfl Try.func50 (by kernel_rfl) rfl #[.agg #[.string a0_0, .int .u8 a0_1, .bool a0_2, .int .i64 a0_3, .int .i64 a0_4, .int .i64 a0_5], .int .i64 (wrap64 (a1 + 1))] rfl (by (try simp only [List.map_toArray, List.map_cons, List.map_nil]); first | done | rfl | (simp only [List.length_drop, List.length_take]; rfl)) ?_; (with_reducible refine (sym_Check.calls kj4 a0_0 a0_1 a0_2 a0_3 a0_4 a0_5 (wrap64 (a1 + 1)) t625 _ A14.out).mono ?_); rintro e w18 ⟨rfl, hb⟩; refine ⟨_, rfl, ?_⟩; have n0_ := Aside0.mk (blk_below (g := gb622) (o := .cells #[.string a0_0, .int .u8 a0_1, .bool a0_2, .int .i64 a0_3, .int .i64 a0_4, .int .i64 a0_5] 64 (0, 0)) (by (with_reducible repeat (first | refine blk_drewN ?_ _ | refine blk_drew ?_ | refine blk_alloc ?_ _)); exact BK622.out) hb); have n1_ := Aside0.mk (below_step (by repeat (first | (with_reducible first | exact HB.out | apply below_alloc | apply pw_below_drewN | apply below_drew1 | refine below_set ?_ GE622.out) | exact HB.out)) hb); clear BK622; clear HB; have BK622 := n0_; have HB := n1_; clear n0_ n1_; (try clear hb); (try clear hb2); (try clear hk); (try clear hi)))
      go_ret
      exact ⟨by first | rfl | (simp [errW_none, errW_some] <;> rfl) | (simp [*, errW_none, errW_some] <;> rfl), by repeat (first | (with_reducible first | exact HB.out | apply below_alloc | apply pw_below_drewN | apply below_drew1 | refine below_set ?_ GE622.out) | exact HB.out)⟩
     ·
      replace c16 := Bool.eq_false_iff.mpr c16
      subst c16
      have H1 : (none) = some r := by rw [if_neg (show ¬ (false = true) by decide)] at H; exact H
      clear H
      have H := H1
      clear H1
      exact absurd H (by simp)
    ·
     rw [if_neg c15] at H
     have c15b0 : (t624 == 0) = false := beq_eq_false_iff_ne.mpr c15
     have c15b1 : (t624 != 0) = true := bne_iff_ne.mpr c15
     by_cases c19 : t623 = true
     ·
      subst c19
      have H1 : (if t624 = 8 then (if t625 = 8 then (some true) else (if t625 = 0 then (some (a0_3 == (wrap64 (a1 + 1)))) else (none))) else (none)) = some r := by rw [if_pos rfl] at H; exact H
      clear H
      have H := H1
      clear H1
      by_cases c20 : t624 = 8
      ·
       rw [if_pos c20] at H
       have c20b0 : (t624 == 8) = true := beq_iff_eq.mpr c20
       have c20b1 : (t624 != 8) = false := bne_eq_false_iff_eq.mpr c20
       clear c20
       by_cases c21 : t625 = 8
       ·
        rw [if_pos c21] at H
        have c21b0 : (t625 == 8) = true := beq_iff_eq.mpr c21
        have c21b1 : (t625 != 8) = false := bne_eq_false_iff_eq.mpr c21
        clear c21
        obtain rfl := Option.some.inj H
        have hcz22_0 : wc.cell? ⟨gb622, 0, none⟩ = some (.string a0_0) := (blk_cell BK622.out 0).trans rfl
        have hcz22_1 : wc.cell? ⟨gb622, 1, none⟩ = some (.int .u8 a0_1) := (blk_cell BK622.out 1).trans rfl
        have hcz22_2 : wc.cell? ⟨gb622, 2, none⟩ = some (.bool a0_2) := (blk_cell BK622.out 2).trans rfl
        have hcz22_3 : wc.cell? ⟨gb622, 3, none⟩ = some (.int .i64 a0_3) := (blk_cell BK622.out 3).trans rfl
        have hcz22_4 : wc.cell? ⟨gb622, 4, none⟩ = some (.int .i64 a0_4) := (blk_cell BK622.out 4).trans rfl
        have hcz22_5 : wc.cell? ⟨gb622, 5, none⟩ = some (.int .i64 a0_5) := (blk_cell BK622.out 5).trans rfl
        have hfz22_0 := blk_frozen BK622.out 0
        have hfz22_1 := blk_frozen BK622.out 1
        have hfz22_2 := blk_frozen BK622.out 2
        have hfz22_3 := blk_frozen BK622.out 3
        have hfz22_4 := blk_frozen BK622.out 4
        have hfz22_5 := blk_frozen BK622.out 5
        go_wp2_with (first | ((with_reducible refine gate_callee (f := 50) rfl ?_); refine goesL_ (some 30) rfl rfl Try.func50 (by kernel_rfl) rfl #[.agg #[.string a0_0, .int .u8 a0_1, .bool a0_2, .int .i64 a0_3, .int .i64 a0_4, .int .i64 a0_5], .int .i64 (wrap64 (a1 + 1))] rfl (by (try simp only [List.map_toArray, List.map_cons, List.map_nil]); first | done | rfl | (simp only [List.length_drop, List.length_take]; rfl)) ?_; (with_reducible refine (sym_Check.calls kj4 a0_0 a0_1 a0_2 a0_3 a0_4 a0_5 (wrap64 (a1 + 1)) t625 _ A14.out).mono ?_); rintro e w23 ⟨rfl, hb⟩; refine ⟨_, rfl, ?_⟩; have n0_ := Aside0.mk (blk_below (g := gb622) (o := .cells #[.string a0_0, .int .u8 a0_1, .bool a0_2, .int .i64 a0_3, .int .i64 a0_4, .int .i64 a0_5] 64 (0, 0)) (by (with_reducible repeat (first | refine blk_drewN ?_ _ | refine blk_drew ?_ | refine blk_alloc ?_ _)); exact BK622.out) hb); have n1_ := Aside0.mk (below_step (by repeat (first | (with_reducible first | exact HB.out | apply below_alloc | apply pw_below_drewN | apply below_drew1 | refine below_set ?_ GE622.out) | exact HB.out)) hb); clear BK622; clear HB; have BK622 := n0_; have HB := n1_; clear n0_ n1_; (try clear hb); (try clear hb2); (try clear hk); (try clear hi)))
        go_ret
        exact ⟨by first | rfl | (simp [errW_none, errW_some] <;> rfl) | (simp [*, errW_none, errW_some] <;> rfl), by repeat (first | (with_reducible first | exact HB.out | apply below_alloc | apply pw_below_drewN | apply below_drew1 | refine below_set ?_ GE622.out) | exact HB.out)⟩
       ·
        rw [if_neg c21] at H
        have c21b0 : (t625 == 8) = false := beq_eq_false_iff_ne.mpr c21
        have c21b1 : (t625 != 8) = true := bne_iff_ne.mpr c21
        by_cases c24 : t625 = 0
        ·
         rw [if_pos c24] at H
         have c24b0 : (t625 == 0) = true := beq_iff_eq.mpr c24
         have c24b1 : (t625 != 0) = false := bne_eq_false_iff_eq.mpr c24
         clear c24
         obtain rfl := Option.some.inj H
         have hcz25_0 : wc.cell? ⟨gb622, 0, none⟩ = some (.string a0_0) := (blk_cell BK622.out 0).trans rfl
         have hcz25_1 : wc.cell? ⟨gb622, 1, none⟩ = some (.int .u8 a0_1) := (blk_cell BK622.out 1).trans rfl
         have hcz25_2 : wc.cell? ⟨gb622, 2, none⟩ = some (.bool a0_2) := (blk_cell BK622.out 2).trans rfl
         have hcz25_3 : wc.cell? ⟨gb622, 3, none⟩ = some (.int .i64 a0_3) := (blk_cell BK622.out 3).trans rfl
         have hcz25_4 : wc.cell? ⟨gb622, 4, none⟩ = some (.int .i64 a0_4) := (blk_cell BK622.out 4).trans rfl
         have hcz25_5 : wc.cell? ⟨gb622, 5, none⟩ = some (.int .i64 a0_5) := (blk_cell BK622.out 5).trans rfl
         have hfz25_0 := blk_frozen BK622.out 0
         have hfz25_1 := blk_frozen BK622.out 1
         have hfz25_2 := blk_frozen BK622.out 2
         have hfz25_3 := blk_frozen BK622.out 3
         have hfz25_4 := blk_frozen BK622.out 4
         have hfz25_5 := blk_frozen BK622.out 5
         go_wp2_with (first | ((with_reducible refine gate_callee (f := 50) rfl ?_); refine goesL_ (some 30) rfl rfl Try.func50 (by kernel_rfl) rfl #[.agg #[.string a0_0, .int .u8 a0_1, .bool a0_2, .int .i64 a0_3, .int .i64 a0_4, .int .i64 a0_5], .int .i64 (wrap64 (a1 + 1))] rfl (by (try simp only [List.map_toArray, List.map_cons, List.map_nil]); first | done | rfl | (simp only [List.length_drop, List.length_take]; rfl)) ?_; (with_reducible refine (sym_Check.calls kj4 a0_0 a0_1 a0_2 a0_3 a0_4 a0_5 (wrap64 (a1 + 1)) t625 _ A14.out).mono ?_); rintro e w26 ⟨rfl, hb⟩; refine ⟨_, rfl, ?_⟩; have n0_ := Aside0.mk (blk_below (g := gb622) (o := .cells #[.string a0_0, .int .u8 a0_1, .bool a0_2, .int .i64 a0_3, .int .i64 a0_4, .int .i64 a0_5] 64 (0, 0)) (by (with_reducible repeat (first | refine blk_drewN ?_ _ | refine blk_drew ?_ | refine blk_alloc ?_ _)); exact BK622.out) hb); have n1_ := Aside0.mk (below_step (by repeat (first | (with_reducible first | exact HB.out | apply below_alloc | apply pw_below_drewN | apply below_drew1 | refine below_set ?_ GE622.out) | exact HB.out)) hb); clear BK622; clear HB; have BK622 := n0_; have HB := n1_; clear n0_ n1_; (try clear hb); (try clear hb2); (try clear hk); (try clear hi); have hcz27_0 : w26.cell? ⟨gb622, 0, none⟩ = some (.string a0_0) := (blk_cell BK622.out 0).trans rfl; have hcz27_1 : w26.cell? ⟨gb622, 1, none⟩ = some (.int .u8 a0_1) := (blk_cell BK622.out 1).trans rfl; have hcz27_2 : w26.cell? ⟨gb622, 2, none⟩ = some (.bool a0_2) := (blk_cell BK622.out 2).trans rfl; have hcz27_3 : w26.cell? ⟨gb622, 3, none⟩ = some (.int .i64 a0_3) := (blk_cell BK622.out 3).trans rfl; have hcz27_4 : w26.cell? ⟨gb622, 4, none⟩ = some (.int .i64 a0_4) := (blk_cell BK622.out 4).trans rfl; have hcz27_5 : w26.cell? ⟨gb622, 5, none⟩ = some (.int .i64 a0_5) := (blk_cell BK622.out 5).trans rfl; have hfz27_0 := blk_frozen BK622.out 0; have hfz27_1 := blk_frozen BK622.out 1; have hfz27_2 := blk_frozen BK622.out 2; have hfz27_3 := blk_frozen BK622.out 3; have hfz27_4 := blk_frozen BK622.out 4; have hfz27_5 := blk_frozen BK622.out 5))
         go_ret
         exact ⟨by first | rfl | (simp [errW_none, errW_some] <;> rfl) | (simp [*, errW_none, errW_some] <;> rfl), by repeat (first | (with_reducible first | exact HB.out | apply below_alloc | apply pw_below_drewN | apply below_drew1 | refine below_set ?_ GE622.out) | exact HB.out)⟩
        ·
         rw [if_neg c24] at H
         exact absurd H (by simp)
      ·
       rw [if_neg c20] at H
       exact absurd H (by simp)
     ·
      replace c19 := Bool.eq_false_iff.mpr c19
      subst c19
      have H1 : (none) = some r := by rw [if_neg (show ¬ (false = true) by decide)] at H; exact H
      clear H
      have H := H1
      clear H1
      exact absurd H (by simp)

/-- THE ONE PURE STATEMENT of quoinlaw10_SymWhere: yours. -/
def quoinlaw10_SymWhere.Pure : Prop := ∀ (a0_0 : ByteArray) (a0_1 : Int) (a0_2 : Bool) (a0_3 : Int) (a0_4 : Int) (a0_5 : Int) (a1 : Int), a0_0.size ≤ maxLen → (Lit.int .u8 a0_1).wf = true → (Lit.int .i64 a0_3).wf = true → (Lit.int .i64 a0_4).wf = true → (Lit.int .i64 a0_5).wf = true → (Lit.int .i64 a1).wf = true → ∃ k, quoinlaw10_SymWhere.f k a0_0 a0_1 a0_2 a0_3 a0_4 a0_5 a1 = some true
theorem quoinlaw10_SymWhere.walk (P : quoinlaw10_SymWhere.Pure) (a0_0 : ByteArray) (a0_1 : Int) (a0_2 : Bool) (a0_3 : Int) (a0_4 : Int) (a0_5 : Int) (a1 : Int) (w : World) (w0_0 : a0_0.size ≤ maxLen) (w0_1 : (Lit.int .u8 a0_1).wf = true) (w0_2 : (Lit.int .i64 a0_3).wf = true) (w0_3 : (Lit.int .i64 a0_4).wf = true) (w0_4 : (Lit.int .i64 a0_5).wf = true) (w1_0 : (Lit.int .i64 a1).wf = true) :
  Calls Try.prog 16 #[.agg #[.string a0_0, .int .u8 a0_1, .bool a0_2, .int .i64 a0_3, .int .i64 a0_4, .int .i64 a0_5], .int .i64 a1] w fun e w' => e = .returned (.bool true) ∧ Below w.heap.size w w' := by
 obtain ⟨k, h⟩ := P a0_0 a0_1 a0_2 a0_3 a0_4 a0_5 a1 w0_0 w0_1 w0_2 w0_3 w0_4 w1_0
 refine (quoinlaw10_SymWhere.calls k a0_0 a0_1 a0_2 a0_3 a0_4 a0_5 a1 true w h).mono ?_
 rintro e w' ⟨rfl, hd⟩
 exact ⟨rfl, hd⟩

end Go.Proofs.Ytomabnfeipobnaa.P
