-- Written by pext.py, a program of this session, over the kit's print: a function's contract
import Derived.Test.YtgihgmniijhfoaaDoorPx0
import Derived.Test.YtgihgmniijhfoaaDoorPx1
import Derived.Test.YtgihgmniijhfoaaDoorPx5
import Derived.Test.YtgihgmniijhfoaaDoorPx6
import Derived.Test.YtgihgmniijhfoaaDoorPx9
import Derived.Test.YtgihgmniijhfoaaDoorPx10
import Derived.Test.YtgihgmniijhfoaaDoorPx11
namespace Go.Proofs.YtgihgmniijhfoaaDoor.P
open Go.RowKit Go.Proofs.YtgihgmniijhfoaaDoorW.PrintWords Go.Proofs.YtgihgmniijhfoaaDoorW.PrintLast Go.Proofs.YtgihgmniijhfoaaDoorW.PrintMore
attribute [local go_sem] max2_int min2_int max_two min_two max_three min_three max_four min_four   -- for this text's walks alone
set_option linter.unusedVariables false
set_option linter.unusedSimpArgs false

attribute [local go_sem high] eqA23
/-! ### quoinlaw16_ExprBack: function 7 -/
mutual
def quoinlaw16_ExprBack.j0 : Nat → List (S41) → Bool → Bool → ByteArray → ByteArray → Int → Int → Option (Bool)
 | 0, _, _, _, _, _, _, _ => none
 | k + 1, x1, x5, x31, x441000, x441001, x441002, x441003 => if x31 = true then (some x5) else ((expr_Tokens.f x441000 x441001 x441002 x441003).bind fun bt443 => (if bt443.2 = 0 then (quoinlaw16_ExprBack.l0 k x1 bt443.1 (bt443.1.length : Int) 0 x441000 x441001 x441002 x441003) else (some ((bt443.1.length : Int) == 0))))
def quoinlaw16_ExprBack.l0 : Nat → List (S41) → List (S41) → Int → Int → ByteArray → ByteArray → Int → Int → Option (Bool)
 | 0, _, _, _, _, _, _, _, _ => none
 | k + 1, x1, x6, x8, x9, x441000, x441001, x441002, x441003 => if x9 < (x1.length : Int) then (if 0 ≤ x9 then ((lex_Check.f k ((rd_T41 x1 x9).f0) ((rd_T41 x1 x9).f1) ((rd_T41 x1 x9).f2)).bind fun t448 => (if t448 = 0 then (if x9 = 0 then (if 0 < (x1.length : Int) then (if ((rd_T41 x1 0).f0) = 4 then (if ((rd_T41 x1 0).f1).toList = ([43] : List UInt8) then (some true) else (if ((rd_T41 x1 0).f1).toList = ([45] : List UInt8) then (some true) else (quoinlaw16_ExprBack.l0 k x1 x6 x8 (wrap64 (x9 + 1)) x441000 x441001 x441002 x441003))) else (quoinlaw16_ExprBack.l0 k x1 x6 x8 (wrap64 (x9 + 1)) x441000 x441001 x441002 x441003)) else (none)) else (quoinlaw16_ExprBack.l0 k x1 x6 x8 (wrap64 (x9 + 1)) x441000 x441001 x441002 x441003)) else (some true))) else (none)) else (if x6.length + x1.length < 4398046511104 then ((expr_Parse.f (x6 ++ x1) 0).bind fun bt455 => (if bt455.2.2.2.2.2 = 0 then (if (bt455.1.toList == x441000.toList && (bt455.2.1.toList == x441001.toList && (bt455.2.2.1 == x441002 && (bt455.2.2.2.1 == x441003)))) = true then (some (bt455.2.2.2.2.1 == x8)) else (none)) else (none))) else (none))
end
def quoinlaw16_ExprBack.f (k : Nat) (a0_0 : ByteArray) (a0_1 : ByteArray) (a0_2 : Int) (a0_3 : Int) (l1 : List (S41)) : Option (Bool) := (quoinlaw16_alive.f).bind fun t441 => (if (a0_0.size : Int) > 1000 then (quoinlaw16_ExprBack.j0 k l1 t441 true a0_0 a0_1 a0_2 a0_3) else (if (a0_1.size : Int) > 1000 then (quoinlaw16_ExprBack.j0 k l1 t441 true a0_0 a0_1 a0_2 a0_3) else ((quoinref15_Great.f k l1).bind fun t442 => (if t442 = true then (quoinlaw16_ExprBack.j0 k l1 t441 true a0_0 a0_1 a0_2 a0_3) else (quoinlaw16_ExprBack.j0 k l1 t441 (!t441) a0_0 a0_1 a0_2 a0_3)))))
theorem quoinlaw16_ExprBack.mono_l : ∀ k, (∀ y0 y1 y2 y3 y4 y5 y6, LeO (quoinlaw16_ExprBack.j0 k y0 y1 y2 y3 y4 y5 y6) (quoinlaw16_ExprBack.j0 (k + 1) y0 y1 y2 y3 y4 y5 y6)) ∧ (∀ y0 y1 y2 y3 y4 y5 y6 y7, LeO (quoinlaw16_ExprBack.l0 k y0 y1 y2 y3 y4 y5 y6 y7) (quoinlaw16_ExprBack.l0 (k + 1) y0 y1 y2 y3 y4 y5 y6 y7))
 | 0 => ⟨fun _ _ _ _ _ _ _ r h => by simp [quoinlaw16_ExprBack.j0] at h, fun _ _ _ _ _ _ _ _ r h => by simp [quoinlaw16_ExprBack.l0] at h⟩
 | k + 1 => by
  obtain ⟨ih0, ih1⟩ := quoinlaw16_ExprBack.mono_l k
  refine ⟨?_, ?_⟩
  ·
   intro y0 y1 y2 y3 y4 y5 y6
   unfold quoinlaw16_ExprBack.j0
   repeat' first
   | (with_reducible exact ih0 _ _ _ _ _ _ _)
   | (with_reducible exact ih1 _ _ _ _ _ _ _ _)
   | (with_reducible exact lex_Check.mono _ _ _ _)
   | (with_reducible exact quoinref15_Great.mono _ _)
   | (with_reducible exact LeO.refl _)
   | (with_reducible exact LeO.none _)
   | (with_reducible refine LeO.ite ?_ ?_)
   | (with_reducible refine LeO.bind ?_ (fun _ => ?_))
   | exact ih0 _ _ _ _ _ _ _
   | exact ih1 _ _ _ _ _ _ _ _
   | exact lex_Check.mono _ _ _ _
   | exact quoinref15_Great.mono _ _
   | exact LeO.none _
   | refine LeO.ite ?_ ?_
   | refine LeO.bind ?_ (fun _ => ?_)
  ·
   intro y0 y1 y2 y3 y4 y5 y6 y7
   unfold quoinlaw16_ExprBack.l0
   repeat' first
   | (with_reducible exact ih0 _ _ _ _ _ _ _)
   | (with_reducible exact ih1 _ _ _ _ _ _ _ _)
   | (with_reducible exact lex_Check.mono _ _ _ _)
   | (with_reducible exact quoinref15_Great.mono _ _)
   | (with_reducible exact LeO.refl _)
   | (with_reducible exact LeO.none _)
   | (with_reducible refine LeO.ite ?_ ?_)
   | (with_reducible refine LeO.bind ?_ (fun _ => ?_))
   | exact ih0 _ _ _ _ _ _ _
   | exact ih1 _ _ _ _ _ _ _ _
   | exact lex_Check.mono _ _ _ _
   | exact quoinref15_Great.mono _ _
   | exact LeO.none _
   | refine LeO.ite ?_ ?_
   | refine LeO.bind ?_ (fun _ => ?_)
theorem quoinlaw16_ExprBack.mono : ∀ a0 a1 a2 a3 a4 k, LeO (quoinlaw16_ExprBack.f k a0 a1 a2 a3 a4) (quoinlaw16_ExprBack.f (k + 1) a0 a1 a2 a3 a4) := by
 intro a0 a1 a2 a3 a4 k
 obtain ⟨ih0, ih1⟩ := quoinlaw16_ExprBack.mono_l k
 unfold quoinlaw16_ExprBack.f
 repeat' first
   | (with_reducible exact ih0 _ _ _ _ _ _ _)
   | (with_reducible exact ih1 _ _ _ _ _ _ _ _)
   | (with_reducible exact lex_Check.mono _ _ _ _)
   | (with_reducible exact quoinref15_Great.mono _ _)
   | (with_reducible exact LeO.refl _)
   | (with_reducible exact LeO.none _)
   | (with_reducible refine LeO.ite ?_ ?_)
   | (with_reducible refine LeO.bind ?_ (fun _ => ?_))
   | exact ih0 _ _ _ _ _ _ _
   | exact ih1 _ _ _ _ _ _ _ _
   | exact lex_Check.mono _ _ _ _
   | exact quoinref15_Great.mono _ _
   | exact LeO.none _
   | refine LeO.ite ?_ ?_
   | refine LeO.bind ?_ (fun _ => ?_)
set_option maxHeartbeats 8000000 in
set_option maxRecDepth 100000 in
theorem quoinlaw16_ExprBack.calls (k : Nat) (a0_0 : ByteArray) (a0_1 : ByteArray) (a0_2 : Int) (a0_3 : Int) (A1 : Option Addr) (c1 : Nat) (l1 : List (S41)) (r : Bool) (w : World) (hr1 : Kd.C k41 w A1 l1.length l1) (hc1 : l1.length ≤ c1) (hT : Lib.TabIs Tryd.prog w "internal/strconv.uint64pow10" .u64 Lib.pow10Tab) (hD : LexW.LexD w) (hE : LexW.LexE w) (hM : ExW.ModsAt w) (h : quoinlaw16_ExprBack.f k a0_0 a0_1 a0_2 a0_3 l1 = some r) :
  Calls Tryd.prog 7 #[.agg #[.string a0_0, .string a0_1, .int .i64 a0_2, .int .u8 a0_3], .slice A1 l1.length c1] w fun e w' => e = .returned (.bool r) ∧ Below w.heap.size w w' := by
 have hu23 := Tryd.underlying23
 have hu41 := Tryd.underlying41
 have HR1 := Aside0.mk hr1
 have HC1 := Aside0.mk hc1
 clear hr1 hc1
 have HT := Aside0.mk hT
 clear hT
 have HD_ := Aside0.mk hD
 clear hD
 have HE_ := Aside0.mk hE
 clear hE
 have HM_ := Aside0.mk hM
 clear hM
 have HB := Aside0.mk (Below.refl w.heap.size w)
 have H : ((quoinlaw16_alive.f).bind fun t441 => (if (a0_0.size : Int) > 1000 then (quoinlaw16_ExprBack.j0 k l1 t441 true a0_0 a0_1 a0_2 a0_3) else (if (a0_1.size : Int) > 1000 then (quoinlaw16_ExprBack.j0 k l1 t441 true a0_0 a0_1 a0_2 a0_3) else ((quoinref15_Great.f k l1).bind fun t442 => (if t442 = true then (quoinlaw16_ExprBack.j0 k l1 t441 true a0_0 a0_1 a0_2 a0_3) else (quoinlaw16_ExprBack.j0 k l1 t441 (!t441) a0_0 a0_1 a0_2 a0_3)))))) = some r := h
 clear h
 replace H := Option.bind_eq_some_iff.mp H
 obtain ⟨t441, A30, H⟩ := H
 replace H : (if (a0_0.size : Int) > 1000 then (quoinlaw16_ExprBack.j0 k l1 t441 true a0_0 a0_1 a0_2 a0_3) else (if (a0_1.size : Int) > 1000 then (quoinlaw16_ExprBack.j0 k l1 t441 true a0_0 a0_1 a0_2 a0_3) else ((quoinref15_Great.f k l1).bind fun t442 => (if t442 = true then (quoinlaw16_ExprBack.j0 k l1 t441 true a0_0 a0_1 a0_2 a0_3) else (quoinlaw16_ExprBack.j0 k l1 t441 (!t441) a0_0 a0_1 a0_2 a0_3))))) = some r := H
 have A3 := Aside0.mk A30
 clear A30
 have HC4 := Aside0.mk H
 clear H
 go_enter Tryd.func7, Tryd.ntmps7
 go_upto_region 2 with (first | ((with_reducible refine gate_dst (N := 2) rfl ?_); (try (refine gate_guard (by rfl) ?_; dsimp only)); refine box_event ?hg (N := 2) ?hd (cs := #[.string a0_0, .string a0_1, .int .i64 a0_2, .int .u8 a0_3]) (t := 23) ?hr ?_; (case hd => rfl); (case hg => rfl); (case hr => first | (go_simp; done) | (go_simp; rfl)); intro gb440 hg w5 hbox hb; have n0_ := Aside0.mk (below_step (by repeat (first | (with_reducible first | exact HB.out | apply below_alloc | apply pw_below_drewN | apply below_drew1) | exact HB.out)) hb); have n1_ := Aside0.mk (hbox); have n2_ := Aside0.mk ((by rw [hg]; exact (below_size (by repeat (first | (with_reducible first | exact HB.out | apply below_alloc | apply pw_below_drewN | apply below_drew1) | exact HB.out))) : w.heap.size ≤ gb440)); have n3_ := Aside0.mk ((by rw [hg]; exact (below_size (by repeat (first | (with_reducible first | exact HB.out | apply below_alloc | apply pw_below_drewN | apply below_drew1) | exact HB.out))) : w.heap.size ≤ gb440)); clear HB; have HB := n0_; have BK440 := n1_; have GW440 := n2_; have GE440 := n3_; clear n0_ n1_ n2_ n3_; clear hb hbox hg) | ((with_reducible refine gate_callee (f := 17) rfl ?_); refine goesL_ (some 13) rfl rfl Tryd.func17 (by kernel_rfl) rfl #[] rfl (by (try simp only [List.map_toArray, List.map_cons, List.map_nil]); first | done | rfl | (simp only [List.length_drop, List.length_take]; rfl)) ?_; (with_reducible refine (quoinlaw16_alive.calls  t441 _ ?side1 ?side2 ?side3 ?side4 A3.out).mono ?_); (case side1 => exact Lib.tabBelow_of_tabIs HT.out _ (by repeat (first | (with_reducible first | exact HB.out | apply below_alloc | apply pw_below_drewN | apply below_drew1 | refine below_set ?_ GE440.out) | exact HB.out))); (case side2 => exact HD_.out.below (by repeat (first | (with_reducible first | exact HB.out | apply below_alloc | apply pw_below_drewN | apply below_drew1 | refine below_set ?_ GE440.out) | exact HB.out))); (case side3 => exact HE_.out.below (by repeat (first | (with_reducible first | exact HB.out | apply below_alloc | apply pw_below_drewN | apply below_drew1 | refine below_set ?_ GE440.out) | exact HB.out))); (case side4 => exact HM_.out.below (by repeat (first | (with_reducible first | exact HB.out | apply below_alloc | apply pw_below_drewN | apply below_drew1 | refine below_set ?_ GE440.out) | exact HB.out))); rintro e w6 ⟨rfl, hb⟩; refine ⟨_, rfl, ?_⟩; have n0_ := Aside0.mk (blk_below (g := gb440) (o := .cells #[.string a0_0, .string a0_1, .int .i64 a0_2, .int .u8 a0_3] 23 (0, 0)) (by (with_reducible repeat (first | refine blk_drewN ?_ _ | refine blk_drew ?_ | refine blk_alloc ?_ _)); exact BK440.out) hb); have n1_ := Aside0.mk (below_step (by repeat (first | (with_reducible first | exact HB.out | apply below_alloc | apply pw_below_drewN | apply below_drew1 | refine below_set ?_ GE440.out) | exact HB.out)) hb); clear BK440; clear HB; have BK440 := n0_; have HB := n1_; clear n0_ n1_; (try clear hb); (try clear hb2); (try clear hk); (try clear hi)))
 (try simp only [Act.put, List.setIfInBounds_toArray, List.set_cons_zero, List.set_cons_succ])
 go_cut [31] (fun v31 wc => ∃ (kq : Nat) (x31_3 : Bool), v31 = .bool x31_3 ∧ Aside0 (quoinlaw16_ExprBack.j0 kq l1 t441 x31_3 a0_0 a0_1 a0_2 a0_3 = some r) ∧ Aside0 (kq ≤ k) ∧ Aside0 (wc.heap[gb440]? = some (.cells #[.string a0_0, .string a0_1, .int .i64 a0_2, .int .u8 a0_3] 23 (0, 0))) ∧ Aside0 (Below w.heap.size w wc))
 case first =>
  have H := HC4.out
  clear HC4
  by_cases c7 : (a0_0.size : Int) > 1000
  ·
   rw [if_pos c7] at H
   have c7b0 : decide (1000 < (a0_0.size : Int)) = true := decide_eq_true c7
   have c7b1 : decide (1000 < a0_0.size) = true := decide_eq_true (by omega)
   clear c7
   (first | rw [c7b0] | (simp only [i64_w, i32_w]; rw [c7b0]) | skip)
   have H' := Aside0.mk H
   clear H
   have hcz8_0 : w6.cell? ⟨gb440, 0, none⟩ = some (.string a0_0) := (blk_cell BK440.out 0).trans rfl
   have hcz8_1 : w6.cell? ⟨gb440, 1, none⟩ = some (.string a0_1) := (blk_cell BK440.out 1).trans rfl
   have hcz8_2 : w6.cell? ⟨gb440, 2, none⟩ = some (.int .i64 a0_2) := (blk_cell BK440.out 2).trans rfl
   have hcz8_3 : w6.cell? ⟨gb440, 3, none⟩ = some (.int .u8 a0_3) := (blk_cell BK440.out 3).trans rfl
   have hfz8_0 := blk_frozen BK440.out 0
   have hfz8_1 := blk_frozen BK440.out 1
   have hfz8_2 := blk_frozen BK440.out 2
   have hfz8_3 := blk_frozen BK440.out 3
   go_wp2
   go_meet
   case rel => exact ⟨_, (true), (by first | rfl | (simp; done) | (simp [*]; done)), H', ⟨by first | omega | exact Nat.le_refl _⟩, ⟨by (with_reducible repeat (first | refine blk_drewN ?_ _ | refine blk_drew ?_ | refine blk_alloc ?_ _)); exact BK440.out⟩, ⟨by repeat (first | (with_reducible first | exact HB.out | apply below_alloc | apply pw_below_drewN | apply below_drew1 | refine below_set ?_ GE440.out) | exact HB.out)⟩⟩
  ·
   rw [if_neg c7] at H
   have c7b0 : decide (1000 < (a0_0.size : Int)) = false := decide_eq_false c7
   have c7b1 : decide (1000 < a0_0.size) = false := decide_eq_false (by omega)
   clear c7
   (first | rw [c7b0] | (simp only [i64_w, i32_w]; rw [c7b0]) | skip)
   by_cases c9 : (a0_1.size : Int) > 1000
   ·
    rw [if_pos c9] at H
    have c9b0 : decide (1000 < (a0_1.size : Int)) = true := decide_eq_true c9
    have c9b1 : decide (1000 < a0_1.size) = true := decide_eq_true (by omega)
    clear c9
    have H' := Aside0.mk H
    clear H
    have hcz10_0 : w6.cell? ⟨gb440, 0, none⟩ = some (.string a0_0) := (blk_cell BK440.out 0).trans rfl
    have hcz10_1 : w6.cell? ⟨gb440, 1, none⟩ = some (.string a0_1) := (blk_cell BK440.out 1).trans rfl
    have hcz10_2 : w6.cell? ⟨gb440, 2, none⟩ = some (.int .i64 a0_2) := (blk_cell BK440.out 2).trans rfl
    have hcz10_3 : w6.cell? ⟨gb440, 3, none⟩ = some (.int .u8 a0_3) := (blk_cell BK440.out 3).trans rfl
    have hfz10_0 := blk_frozen BK440.out 0
    have hfz10_1 := blk_frozen BK440.out 1
    have hfz10_2 := blk_frozen BK440.out 2
    have hfz10_3 := blk_frozen BK440.out 3
    go_wp2
    go_meet
    case rel => exact ⟨_, (true), (by first | rfl | (simp; done) | (simp [*]; done)), H', ⟨by first | omega | exact Nat.le_refl _⟩, ⟨by (with_reducible repeat (first | refine blk_drewN ?_ _ | refine blk_drew ?_ | refine blk_alloc ?_ _)); exact BK440.out⟩, ⟨by repeat (first | (with_reducible first | exact HB.out | apply below_alloc | apply pw_below_drewN | apply below_drew1 | refine below_set ?_ GE440.out) | exact HB.out)⟩⟩
   ·
    rw [if_neg c9] at H
    have c9b0 : decide (1000 < (a0_1.size : Int)) = false := decide_eq_false c9
    have c9b1 : decide (1000 < a0_1.size) = false := decide_eq_false (by omega)
    clear c9
    replace H := Option.bind_eq_some_iff.mp H
    obtain ⟨t442, A110, H⟩ := H
    replace H : (if t442 = true then (quoinlaw16_ExprBack.j0 k l1 t441 true a0_0 a0_1 a0_2 a0_3) else (quoinlaw16_ExprBack.j0 k l1 t441 (!t441) a0_0 a0_1 a0_2 a0_3)) = some r := H
    have A11 := Aside0.mk A110
    clear A110
    by_cases c12 : t442 = true
    ·
     subst c12
     have H1 : (quoinlaw16_ExprBack.j0 k l1 t441 true a0_0 a0_1 a0_2 a0_3) = some r := by rw [if_pos rfl] at H; exact H
     clear H
     have H := H1
     clear H1
     have H' := Aside0.mk H
     clear H
     have hcz13_0 : w6.cell? ⟨gb440, 0, none⟩ = some (.string a0_0) := (blk_cell BK440.out 0).trans rfl
     have hcz13_1 : w6.cell? ⟨gb440, 1, none⟩ = some (.string a0_1) := (blk_cell BK440.out 1).trans rfl
     have hcz13_2 : w6.cell? ⟨gb440, 2, none⟩ = some (.int .i64 a0_2) := (blk_cell BK440.out 2).trans rfl
     have hcz13_3 : w6.cell? ⟨gb440, 3, none⟩ = some (.int .u8 a0_3) := (blk_cell BK440.out 3).trans rfl
     have hfz13_0 := blk_frozen BK440.out 0
     have hfz13_1 := blk_frozen BK440.out 1
     have hfz13_2 := blk_frozen BK440.out 2
     have hfz13_3 := blk_frozen BK440.out 3
     go_wp2_with (first | (go_at_call 14; (with_reducible refine (quoinref15_Great.calls k _ _ l1 true _ ?side1 ?side2 A11.out).mono ?_); (case side1 => repeat (first | exact (Kd.C_below HR1.out HB.out) | (with_reducible refine Kd.C_alloc ?_ _) | (with_reducible refine Kd.C_drewN ?_ _) | (with_reducible refine Kd.C_drew ?_))); (case side2 => exact HC1.out); rintro e w14 ⟨rfl, hb⟩; have n0_ := Aside0.mk (blk_below (g := gb440) (o := .cells #[.string a0_0, .string a0_1, .int .i64 a0_2, .int .u8 a0_3] 23 (0, 0)) (by (with_reducible repeat (first | refine blk_drewN ?_ _ | refine blk_drew ?_ | refine blk_alloc ?_ _)); exact BK440.out) hb); have n1_ := Aside0.mk (below_step (by repeat (first | (with_reducible first | exact HB.out | apply below_alloc | apply pw_below_drewN | apply below_drew1 | refine below_set ?_ GE440.out) | exact HB.out)) hb); clear BK440; clear HB; have BK440 := n0_; have HB := n1_; clear n0_ n1_; (try clear hb); (try clear hb2); (try clear hk); (try clear hi)))
     go_meet
     case rel => exact ⟨_, (true), (by first | rfl | (simp; done) | (simp [*]; done)), H', ⟨by first | omega | exact Nat.le_refl _⟩, ⟨by (with_reducible repeat (first | refine blk_drewN ?_ _ | refine blk_drew ?_ | refine blk_alloc ?_ _)); exact BK440.out⟩, ⟨by repeat (first | (with_reducible first | exact HB.out | apply below_alloc | apply pw_below_drewN | apply below_drew1 | refine below_set ?_ GE440.out) | exact HB.out)⟩⟩
    ·
     replace c12 := Bool.eq_false_iff.mpr c12
     subst c12
     have H1 : (quoinlaw16_ExprBack.j0 k l1 t441 (!t441) a0_0 a0_1 a0_2 a0_3) = some r := by rw [if_neg (show ¬ (false = true) by decide)] at H; exact H
     clear H
     have H := H1
     clear H1
     have H' := Aside0.mk H
     clear H
     have hcz15_0 : w6.cell? ⟨gb440, 0, none⟩ = some (.string a0_0) := (blk_cell BK440.out 0).trans rfl
     have hcz15_1 : w6.cell? ⟨gb440, 1, none⟩ = some (.string a0_1) := (blk_cell BK440.out 1).trans rfl
     have hcz15_2 : w6.cell? ⟨gb440, 2, none⟩ = some (.int .i64 a0_2) := (blk_cell BK440.out 2).trans rfl
     have hcz15_3 : w6.cell? ⟨gb440, 3, none⟩ = some (.int .u8 a0_3) := (blk_cell BK440.out 3).trans rfl
     have hfz15_0 := blk_frozen BK440.out 0
     have hfz15_1 := blk_frozen BK440.out 1
     have hfz15_2 := blk_frozen BK440.out 2
     have hfz15_3 := blk_frozen BK440.out 3
     go_wp2_with (first | (go_at_call 14; (with_reducible refine (quoinref15_Great.calls k _ _ l1 false _ ?side1 ?side2 A11.out).mono ?_); (case side1 => repeat (first | exact (Kd.C_below HR1.out HB.out) | (with_reducible refine Kd.C_alloc ?_ _) | (with_reducible refine Kd.C_drewN ?_ _) | (with_reducible refine Kd.C_drew ?_))); (case side2 => exact HC1.out); rintro e w16 ⟨rfl, hb⟩; have n0_ := Aside0.mk (blk_below (g := gb440) (o := .cells #[.string a0_0, .string a0_1, .int .i64 a0_2, .int .u8 a0_3] 23 (0, 0)) (by (with_reducible repeat (first | refine blk_drewN ?_ _ | refine blk_drew ?_ | refine blk_alloc ?_ _)); exact BK440.out) hb); have n1_ := Aside0.mk (below_step (by repeat (first | (with_reducible first | exact HB.out | apply below_alloc | apply pw_below_drewN | apply below_drew1 | refine below_set ?_ GE440.out) | exact HB.out)) hb); clear BK440; clear HB; have BK440 := n0_; have HB := n1_; clear n0_ n1_; (try clear hb); (try clear hb2); (try clear hk); (try clear hi)))
     go_meet
     case rel => exact ⟨_, (!t441), (by first | rfl | (simp; done) | (simp [*]; done)), H', ⟨by first | omega | exact Nat.le_refl _⟩, ⟨by (with_reducible repeat (first | refine blk_drewN ?_ _ | refine blk_drew ?_ | refine blk_alloc ?_ _)); exact BK440.out⟩, ⟨by repeat (first | (with_reducible first | exact HB.out | apply below_alloc | apply pw_below_drewN | apply below_drew1 | refine below_set ?_ GE440.out) | exact HB.out)⟩⟩
 case rest =>
  clear HC4
  try clear c1
  try clear p2
  try clear c7
  try clear c7b0
  try clear c7b1
  try clear c9
  try clear c9b0
  try clear c9b1
  try clear c12
  try clear hcz10_0
  try clear hcz10_1
  try clear hcz10_2
  try clear hcz10_3
  try clear hcz13_0
  try clear hcz13_1
  try clear hcz13_2
  try clear hcz13_3
  try clear hcz15_0
  try clear hcz15_1
  try clear hcz15_2
  try clear hcz15_3
  try clear hcz8_0
  try clear hcz8_1
  try clear hcz8_2
  try clear hcz8_3
  try clear hfz10_0
  try clear hfz10_1
  try clear hfz10_2
  try clear hfz10_3
  try clear hfz13_0
  try clear hfz13_1
  try clear hfz13_2
  try clear hfz13_3
  try clear hfz15_0
  try clear hfz15_1
  try clear hfz15_2
  try clear hfz15_3
  try clear hfz8_0
  try clear hfz8_1
  try clear hfz8_2
  try clear hfz8_3
  obtain ⟨kq, x31_3, rfl, HA, HJ3, BK440, HB⟩ := hcut
  cases kq with
  | zero => exact absurd HA.out (by simp [quoinlaw16_ExprBack.j0])
  | succ kj3 =>
   have H := HA.out
   clear HA
   simp only [quoinlaw16_ExprBack.j0] at H
   by_cases c17 : x31_3 = true
   ·
    subst c17
    have H1 : (some t441) = some r := by rw [if_pos rfl] at H; exact H
    clear H
    have H := H1
    clear H1
    obtain rfl := Option.some.inj H
    go_wp2
    go_ret
    exact ⟨by first | rfl | (simp [errW_none, errW_some] <;> rfl) | (simp [*, errW_none, errW_some] <;> rfl), by repeat (first | (with_reducible first | exact HB.out | apply below_alloc | apply pw_below_drewN | apply below_drew1 | refine below_set ?_ GE440.out) | exact HB.out)⟩
   ·
    replace c17 := Bool.eq_false_iff.mpr c17
    subst c17
    have H1 : ((expr_Tokens.f a0_0 a0_1 a0_2 a0_3).bind fun bt443 => (if bt443.2 = 0 then (quoinlaw16_ExprBack.l0 kj3 l1 bt443.1 (bt443.1.length : Int) 0 a0_0 a0_1 a0_2 a0_3) else (some ((bt443.1.length : Int) == 0)))) = some r := by rw [if_neg (show ¬ (false = true) by decide)] at H; exact H
    clear H
    have H := H1
    clear H1
    replace H := Option.bind_eq_some_iff.mp H
    obtain ⟨⟨t443, t446⟩, A180, H⟩ := H
    replace H : (if t446 = 0 then (quoinlaw16_ExprBack.l0 kj3 l1 t443 (t443.length : Int) 0 a0_0 a0_1 a0_2 a0_3) else (some ((t443.length : Int) == 0))) = some r := H
    have A18 := Aside0.mk A180
    clear A180
    by_cases c19 : t446 = 0
    ·
     rw [if_pos c19] at H
     have c19b0 : (t446 == 0) = true := beq_iff_eq.mpr c19
     have c19b1 : (t446 != 0) = false := bne_eq_false_iff_eq.mpr c19
     clear c19
     have H' := Aside0.mk H
     clear H
     have hcz20_0 : wc.cell? ⟨gb440, 0, none⟩ = some (.string a0_0) := (blk_cell BK440.out 0).trans rfl
     have hcz20_1 : wc.cell? ⟨gb440, 1, none⟩ = some (.string a0_1) := (blk_cell BK440.out 1).trans rfl
     have hcz20_2 : wc.cell? ⟨gb440, 2, none⟩ = some (.int .i64 a0_2) := (blk_cell BK440.out 2).trans rfl
     have hcz20_3 : wc.cell? ⟨gb440, 3, none⟩ = some (.int .u8 a0_3) := (blk_cell BK440.out 3).trans rfl
     have hfz20_0 := blk_frozen BK440.out 0
     have hfz20_1 := blk_frozen BK440.out 1
     have hfz20_2 := blk_frozen BK440.out 2
     have hfz20_3 := blk_frozen BK440.out 3
     go_wp2_with (first | ((with_reducible refine gate_callee (f := 9) rfl ?_); refine goesL_ (some 35) rfl rfl Tryd.func9 (by kernel_rfl) rfl #[.agg #[.string a0_0, .string a0_1, .int .i64 a0_2, .int .u8 a0_3]] rfl (by (try simp only [List.map_toArray, List.map_cons, List.map_nil]); first | done | rfl | (simp only [List.length_drop, List.length_take]; rfl)) ?_; (with_reducible refine (expr_Tokens.calls a0_0 a0_1 a0_2 a0_3 t443 t446 _ ?side1 ?side2 ?side3 A18.out).mono ?_); (case side1 => exact Lib.tabBelow_of_tabIs HT.out _ (by repeat (first | (with_reducible first | exact HB.out | apply below_alloc | apply pw_below_drewN | apply below_drew1 | refine below_set ?_ GE440.out) | exact HB.out))); (case side2 => exact HD_.out.below (by repeat (first | (with_reducible first | exact HB.out | apply below_alloc | apply pw_below_drewN | apply below_drew1 | refine below_set ?_ GE440.out) | exact HB.out))); (case side3 => exact HM_.out.below (by repeat (first | (with_reducible first | exact HB.out | apply below_alloc | apply pw_below_drewN | apply below_drew1 | refine below_set ?_ GE440.out) | exact HB.out))); rintro e w21 ⟨v444, rfl, ho0, hb⟩; refine ⟨_, rfl, ?_⟩; have n0_ := Aside0.mk (Kd.R_lower ho0 (below_size (by repeat (first | (with_reducible first | exact HB.out | apply below_alloc | apply pw_below_drewN | apply below_drew1 | refine below_set ?_ GE440.out) | exact HB.out)))); have n1_ := Aside0.mk (blk_below (g := gb440) (o := .cells #[.string a0_0, .string a0_1, .int .i64 a0_2, .int .u8 a0_3] 23 (0, 0)) (by (with_reducible repeat (first | refine blk_drewN ?_ _ | refine blk_drew ?_ | refine blk_alloc ?_ _)); exact BK440.out) hb); have n2_ := Aside0.mk (below_step (by repeat (first | (with_reducible first | exact HB.out | apply below_alloc | apply pw_below_drewN | apply below_drew1 | refine below_set ?_ GE440.out) | exact HB.out)) hb); clear BK440; clear HB; have HO445 := n0_; have BK440 := n1_; have HB := n2_; clear n0_ n1_ n2_; (try clear hb); (try clear hb2); (try clear hk); (try clear hi); (try clear ho0); obtain ⟨Ao22, co22, eo22⟩ := Kd.R_slice HO445.out; subst eo22))
     go_loopg [9] kj3 (fun kq v9 w' => ∃ (x9_2 : Int), v9 = .int .i64 x9_2 ∧ Aside0 (quoinlaw16_ExprBack.l0 kq l1 t443 (t443.length : Int) x9_2 a0_0 a0_1 a0_2 a0_3 = some r) ∧ Aside0 (kq ≤ kj3) ∧ Aside0 (Kd.R k41 41 w' w.heap.size (fun _ => True) (.slice Ao22 t443.length co22) t443) ∧ Aside0 (w'.heap[gb440]? = some (.cells #[.string a0_0, .string a0_1, .int .i64 a0_2, .int .u8 a0_3] 23 (0, 0))) ∧ Aside0 (Below w.heap.size w w'))
     case atStart => exact ⟨(0), (by first | rfl | (simp; done) | (simp [*]; done)), H', ⟨Nat.le_refl _⟩, ⟨by (with_reducible repeat (first | apply Kd.R_alloc | apply Kd.R_drewN | apply Kd.R_drew)); exact HO445.out⟩, ⟨by (with_reducible repeat (first | refine blk_drewN ?_ _ | refine blk_drew ?_ | refine blk_alloc ?_ _)); exact BK440.out⟩, ⟨by repeat (first | (with_reducible first | exact HB.out | apply below_alloc | apply pw_below_drewN | apply below_drew1 | refine below_set ?_ GE440.out) | exact HB.out)⟩⟩
     case round =>
      clear H'
      try clear c1
      try clear p2
      try clear c7
      try clear c7b0
      try clear c7b1
      try clear c9
      try clear c9b0
      try clear c9b1
      try clear c12
      try clear c17
      try clear c19
      try clear c19b0
      try clear c19b1
      try clear hcz10_0
      try clear hcz10_1
      try clear hcz10_2
      try clear hcz10_3
      try clear hcz13_0
      try clear hcz13_1
      try clear hcz13_2
      try clear hcz13_3
      try clear hcz15_0
      try clear hcz15_1
      try clear hcz15_2
      try clear hcz15_3
      try clear hcz20_0
      try clear hcz20_1
      try clear hcz20_2
      try clear hcz20_3
      try clear hcz8_0
      try clear hcz8_1
      try clear hcz8_2
      try clear hcz8_3
      try clear hfz10_0
      try clear hfz10_1
      try clear hfz10_2
      try clear hfz10_3
      try clear hfz13_0
      try clear hfz13_1
      try clear hfz13_2
      try clear hfz13_3
      try clear hfz15_0
      try clear hfz15_1
      try clear hfz15_2
      try clear hfz15_3
      try clear hfz20_0
      try clear hfz20_1
      try clear hfz20_2
      try clear hfz20_3
      try clear hfz8_0
      try clear hfz8_1
      try clear hfz8_2
      try clear hfz8_3
      try clear p2
      obtain ⟨x9_2, rfl, HA, HK2, HO_6, BK440, HB⟩ := hrel
      cases gk with
      | zero => exact absurd HA.out (by simp [quoinlaw16_ExprBack.l0])
      | succ k2 =>
       have H := HA.out
       clear HA
       simp only [quoinlaw16_ExprBack.l0] at H
       by_cases c23 : x9_2 < (l1.length : Int)
       ·
        rw [if_pos c23] at H
        have c23b0 : decide (x9_2 < (l1.length : Int)) = true := decide_eq_true c23
        clear c23
        by_cases c24 : 0 ≤ x9_2
        ·
         rw [if_pos c24] at H
         have c24b0 : decide (0 ≤ x9_2) = true := decide_eq_true c24
         clear c24
         replace H := Option.bind_eq_some_iff.mp H
         obtain ⟨t448, A250, H⟩ := H
         replace H : (if t448 = 0 then (if x9_2 = 0 then (if 0 < (l1.length : Int) then (if ((rd_T41 l1 0).f0) = 4 then (if ((rd_T41 l1 0).f1).toList = ([43] : List UInt8) then (some true) else (if ((rd_T41 l1 0).f1).toList = ([45] : List UInt8) then (some true) else (quoinlaw16_ExprBack.l0 k2 l1 t443 (t443.length : Int) (wrap64 (x9_2 + 1)) a0_0 a0_1 a0_2 a0_3))) else (quoinlaw16_ExprBack.l0 k2 l1 t443 (t443.length : Int) (wrap64 (x9_2 + 1)) a0_0 a0_1 a0_2 a0_3)) else (none)) else (quoinlaw16_ExprBack.l0 k2 l1 t443 (t443.length : Int) (wrap64 (x9_2 + 1)) a0_0 a0_1 a0_2 a0_3)) else (some true)) = some r := H
         have A25 := Aside0.mk A250
         clear A250
         by_cases c26 : t448 = 0
         ·
          rw [if_pos c26] at H
          have c26b0 : (t448 == 0) = true := beq_iff_eq.mpr c26
          have c26b1 : (t448 != 0) = false := bne_eq_false_iff_eq.mpr c26
          clear c26
          by_cases c27 : x9_2 = 0
          ·
           rw [if_pos c27] at H
           have c27b0 : (x9_2 == 0) = true := beq_iff_eq.mpr c27
           have c27b1 : (x9_2 != 0) = false := bne_eq_false_iff_eq.mpr c27
           clear c27
           by_cases c28 : 0 < (l1.length : Int)
           ·
            rw [if_pos c28] at H
            have c28b0 : decide (0 < (l1.length : Int)) = true := decide_eq_true c28
            have c28b1 : decide (0 < l1.length) = true := decide_eq_true (by omega)
            clear c28
            by_cases c29 : ((rd_T41 l1 0).f0) = 4
            ·
             rw [if_pos c29] at H
             have c29b0 : (((rd_T41 l1 0).f0) == 4) = true := beq_iff_eq.mpr c29
             have c29b1 : (((rd_T41 l1 0).f0) != 4) = false := bne_eq_false_iff_eq.mpr c29
             clear c29
             by_cases c30 : ((rd_T41 l1 0).f1).toList = ([43] : List UInt8)
             ·
              rw [if_pos c30] at H
              have c30b0 : (((rd_T41 l1 0).f1).toList == ([43] : List UInt8)) = true := beq_iff_eq.mpr c30
              have c30b1 : (((rd_T41 l1 0).f1).toList != ([43] : List UInt8)) = false := bne_eq_false_iff_eq.mpr c30
              clear c30
              obtain rfl := Option.some.inj H
              have p447 : 0 ≤ (x9_2 : Int) := of_decide_eq_true (by first | (with_reducible assumption) | assumption)
              have q447 : x9_2 < (l1.length : Int) := of_decide_eq_true (by first | (with_reducible assumption) | assumption)
              obtain ⟨ad447, e447, hx447_0, hx447_1, hx447_2⟩ := at_T41 HR1.out x9_2 p447 q447
              cases e447
              replace hx447_0 := (HB.out.cell (World.block_lt_of_cell? w _ hx447_0)).trans hx447_0
              replace hx447_1 := (HB.out.cell (World.block_lt_of_cell? w _ hx447_1)).trans hx447_1
              replace hx447_2 := (HB.out.cell (World.block_lt_of_cell? w _ hx447_2)).trans hx447_2
              replace p447 := eq_true p447
              replace q447 := eq_true q447
              go_wp2_with (first | ((with_reducible refine gate_callee (f := 20) rfl ?_); refine goesL_ (some 55) rfl rfl Tryd.func20 (by kernel_rfl) rfl #[.agg #[.int .u8 ((rd_T41 l1 x9_2).f0), .string ((rd_T41 l1 x9_2).f1), .int .i64 ((rd_T41 l1 x9_2).f2)]] rfl (by (try simp only [List.map_toArray, List.map_cons, List.map_nil]); first | done | rfl | (simp only [List.length_drop, List.length_take]; rfl)) ?_; (with_reducible refine (lex_Check.calls k2 ((rd_T41 l1 x9_2).f0) ((rd_T41 l1 x9_2).f1) ((rd_T41 l1 x9_2).f2) t448 _ ?side1 ?side2 A25.out).mono ?_); (case side1 => exact Lib.tabBelow_of_tabIs HT.out _ (by repeat (first | (with_reducible first | exact HB.out | apply below_alloc | apply pw_below_drewN | apply below_drew1 | refine below_set ?_ GE440.out) | exact HB.out))); (case side2 => exact HD_.out.below (by repeat (first | (with_reducible first | exact HB.out | apply below_alloc | apply pw_below_drewN | apply below_drew1 | refine below_set ?_ GE440.out) | exact HB.out))); rintro e w31 ⟨rfl, hb⟩; refine ⟨_, rfl, ?_⟩; have n0_ := Aside0.mk (Kd.R_below (by (with_reducible repeat (first | apply Kd.R_alloc | apply Kd.R_drewN | apply Kd.R_drew)); exact HO_6.out) hb); have n1_ := Aside0.mk (blk_below (g := gb440) (o := .cells #[.string a0_0, .string a0_1, .int .i64 a0_2, .int .u8 a0_3] 23 (0, 0)) (by (with_reducible repeat (first | refine blk_drewN ?_ _ | refine blk_drew ?_ | refine blk_alloc ?_ _)); exact BK440.out) hb); have n2_ := Aside0.mk (below_step (by repeat (first | (with_reducible first | exact HB.out | apply below_alloc | apply pw_below_drewN | apply below_drew1 | refine below_set ?_ GE440.out) | exact HB.out)) hb); clear HO_6; clear BK440; clear HB; have HO_6 := n0_; have BK440 := n1_; have HB := n2_; clear n0_ n1_ n2_; (try clear hb); (try clear hb2); (try clear hk); (try clear hi); have p449 : 0 ≤ (0 : Int) := (by omega); have q449 : 0 < (l1.length : Int) := of_decide_eq_true (by first | (with_reducible assumption) | assumption); obtain ⟨ad449, e449, hx449_0, hx449_1, hx449_2⟩ := at_T41 HR1.out 0 p449 q449; obtain rfl : ad447 = ad449 := (by injection e449); have qi449 : (0 < l1.length) = True := eq_true (by omega); (try rw [show ((0 : Int)).toNat = 0 from rfl] at hx449_0); (try rw [show 0 * 3 = 0 from rfl] at hx449_0); (try rw [Addr.add_zero'] at hx449_0); (try rw [show ((0 : Int)).toNat = 0 from rfl] at hx449_1); (try rw [show 0 * 3 = 0 from rfl] at hx449_1); (try rw [Addr.add_zero'] at hx449_1); (try rw [show ((0 : Int)).toNat = 0 from rfl] at hx449_2); (try rw [show 0 * 3 = 0 from rfl] at hx449_2); (try rw [Addr.add_zero'] at hx449_2); replace hx449_0 := (HB.out.cell (World.block_lt_of_cell? w _ hx449_0)).trans hx449_0; replace hx449_1 := (HB.out.cell (World.block_lt_of_cell? w _ hx449_1)).trans hx449_1; replace hx449_2 := (HB.out.cell (World.block_lt_of_cell? w _ hx449_2)).trans hx449_2; replace p449 := eq_true p449; replace q449 := eq_true q449; have p450 : 0 ≤ (0 : Int) := (by omega); have q450 : 0 < (l1.length : Int) := of_decide_eq_true (by first | (with_reducible assumption) | assumption); obtain ⟨ad450, e450, hx450_0, hx450_1, hx450_2⟩ := at_T41 HR1.out 0 p450 q450; obtain rfl : ad447 = ad450 := (by injection e450); have qi450 : (0 < l1.length) = True := eq_true (by omega); (try rw [show ((0 : Int)).toNat = 0 from rfl] at hx450_0); (try rw [show 0 * 3 = 0 from rfl] at hx450_0); (try rw [Addr.add_zero'] at hx450_0); (try rw [show ((0 : Int)).toNat = 0 from rfl] at hx450_1); (try rw [show 0 * 3 = 0 from rfl] at hx450_1); (try rw [Addr.add_zero'] at hx450_1); (try rw [show ((0 : Int)).toNat = 0 from rfl] at hx450_2); (try rw [show 0 * 3 = 0 from rfl] at hx450_2); (try rw [Addr.add_zero'] at hx450_2); replace hx450_0 := (HB.out.cell (World.block_lt_of_cell? w _ hx450_0)).trans hx450_0; replace hx450_1 := (HB.out.cell (World.block_lt_of_cell? w _ hx450_1)).trans hx450_1; replace hx450_2 := (HB.out.cell (World.block_lt_of_cell? w _ hx450_2)).trans hx450_2; replace p450 := eq_true p450; replace q450 := eq_true q450))
              go_ret
              exact ⟨by first | rfl | (simp [errW_none, errW_some] <;> rfl) | (simp [*, errW_none, errW_some] <;> rfl), by repeat (first | (with_reducible first | exact HB.out | apply below_alloc | apply pw_below_drewN | apply below_drew1 | refine below_set ?_ GE440.out) | exact HB.out)⟩
             ·
              rw [if_neg c30] at H
              have c30b0 : (((rd_T41 l1 0).f1).toList == ([43] : List UInt8)) = false := beq_eq_false_iff_ne.mpr c30
              have c30b1 : (((rd_T41 l1 0).f1).toList != ([43] : List UInt8)) = true := bne_iff_ne.mpr c30
              by_cases c32 : ((rd_T41 l1 0).f1).toList = ([45] : List UInt8)
              ·
               rw [if_pos c32] at H
               have c32b0 : (((rd_T41 l1 0).f1).toList == ([45] : List UInt8)) = true := beq_iff_eq.mpr c32
               have c32b1 : (((rd_T41 l1 0).f1).toList != ([45] : List UInt8)) = false := bne_eq_false_iff_eq.mpr c32
               clear c32
               obtain rfl := Option.some.inj H
               have p447 : 0 ≤ (x9_2 : Int) := of_decide_eq_true (by first | (with_reducible assumption) | assumption)
               have q447 : x9_2 < (l1.length : Int) := of_decide_eq_true (by first | (with_reducible assumption) | assumption)
               obtain ⟨ad447, e447, hx447_0, hx447_1, hx447_2⟩ := at_T41 HR1.out x9_2 p447 q447
               cases e447
               replace hx447_0 := (HB.out.cell (World.block_lt_of_cell? w _ hx447_0)).trans hx447_0
               replace hx447_1 := (HB.out.cell (World.block_lt_of_cell? w _ hx447_1)).trans hx447_1
               replace hx447_2 := (HB.out.cell (World.block_lt_of_cell? w _ hx447_2)).trans hx447_2
               replace p447 := eq_true p447
               replace q447 := eq_true q447
               go_wp2_with (first | ((with_reducible refine gate_callee (f := 20) rfl ?_); refine goesL_ (some 55) rfl rfl Tryd.func20 (by kernel_rfl) rfl #[.agg #[.int .u8 ((rd_T41 l1 x9_2).f0), .string ((rd_T41 l1 x9_2).f1), .int .i64 ((rd_T41 l1 x9_2).f2)]] rfl (by (try simp only [List.map_toArray, List.map_cons, List.map_nil]); first | done | rfl | (simp only [List.length_drop, List.length_take]; rfl)) ?_; (with_reducible refine (lex_Check.calls k2 ((rd_T41 l1 x9_2).f0) ((rd_T41 l1 x9_2).f1) ((rd_T41 l1 x9_2).f2) t448 _ ?side1 ?side2 A25.out).mono ?_); (case side1 => exact Lib.tabBelow_of_tabIs HT.out _ (by repeat (first | (with_reducible first | exact HB.out | apply below_alloc | apply pw_below_drewN | apply below_drew1 | refine below_set ?_ GE440.out) | exact HB.out))); (case side2 => exact HD_.out.below (by repeat (first | (with_reducible first | exact HB.out | apply below_alloc | apply pw_below_drewN | apply below_drew1 | refine below_set ?_ GE440.out) | exact HB.out))); rintro e w33 ⟨rfl, hb⟩; refine ⟨_, rfl, ?_⟩; have n0_ := Aside0.mk (Kd.R_below (by (with_reducible repeat (first | apply Kd.R_alloc | apply Kd.R_drewN | apply Kd.R_drew)); exact HO_6.out) hb); have n1_ := Aside0.mk (blk_below (g := gb440) (o := .cells #[.string a0_0, .string a0_1, .int .i64 a0_2, .int .u8 a0_3] 23 (0, 0)) (by (with_reducible repeat (first | refine blk_drewN ?_ _ | refine blk_drew ?_ | refine blk_alloc ?_ _)); exact BK440.out) hb); have n2_ := Aside0.mk (below_step (by repeat (first | (with_reducible first | exact HB.out | apply below_alloc | apply pw_below_drewN | apply below_drew1 | refine below_set ?_ GE440.out) | exact HB.out)) hb); clear HO_6; clear BK440; clear HB; have HO_6 := n0_; have BK440 := n1_; have HB := n2_; clear n0_ n1_ n2_; (try clear hb); (try clear hb2); (try clear hk); (try clear hi); have p449 : 0 ≤ (0 : Int) := (by omega); have q449 : 0 < (l1.length : Int) := of_decide_eq_true (by first | (with_reducible assumption) | assumption); obtain ⟨ad449, e449, hx449_0, hx449_1, hx449_2⟩ := at_T41 HR1.out 0 p449 q449; obtain rfl : ad447 = ad449 := (by injection e449); have qi449 : (0 < l1.length) = True := eq_true (by omega); (try rw [show ((0 : Int)).toNat = 0 from rfl] at hx449_0); (try rw [show 0 * 3 = 0 from rfl] at hx449_0); (try rw [Addr.add_zero'] at hx449_0); (try rw [show ((0 : Int)).toNat = 0 from rfl] at hx449_1); (try rw [show 0 * 3 = 0 from rfl] at hx449_1); (try rw [Addr.add_zero'] at hx449_1); (try rw [show ((0 : Int)).toNat = 0 from rfl] at hx449_2); (try rw [show 0 * 3 = 0 from rfl] at hx449_2); (try rw [Addr.add_zero'] at hx449_2); replace hx449_0 := (HB.out.cell (World.block_lt_of_cell? w _ hx449_0)).trans hx449_0; replace hx449_1 := (HB.out.cell (World.block_lt_of_cell? w _ hx449_1)).trans hx449_1; replace hx449_2 := (HB.out.cell (World.block_lt_of_cell? w _ hx449_2)).trans hx449_2; replace p449 := eq_true p449; replace q449 := eq_true q449; have p450 : 0 ≤ (0 : Int) := (by omega); have q450 : 0 < (l1.length : Int) := of_decide_eq_true (by first | (with_reducible assumption) | assumption); obtain ⟨ad450, e450, hx450_0, hx450_1, hx450_2⟩ := at_T41 HR1.out 0 p450 q450; obtain rfl : ad447 = ad450 := (by injection e450); have qi450 : (0 < l1.length) = True := eq_true (by omega); (try rw [show ((0 : Int)).toNat = 0 from rfl] at hx450_0); (try rw [show 0 * 3 = 0 from rfl] at hx450_0); (try rw [Addr.add_zero'] at hx450_0); (try rw [show ((0 : Int)).toNat = 0 from rfl] at hx450_1); (try rw [show 0 * 3 = 0 from rfl] at hx450_1); (try rw [Addr.add_zero'] at hx450_1); (try rw [show ((0 : Int)).toNat = 0 from rfl] at hx450_2); (try rw [show 0 * 3 = 0 from rfl] at hx450_2); (try rw [Addr.add_zero'] at hx450_2); replace hx450_0 := (HB.out.cell (World.block_lt_of_cell? w _ hx450_0)).trans hx450_0; replace hx450_1 := (HB.out.cell (World.block_lt_of_cell? w _ hx450_1)).trans hx450_1; replace hx450_2 := (HB.out.cell (World.block_lt_of_cell? w _ hx450_2)).trans hx450_2; replace p450 := eq_true p450; replace q450 := eq_true q450; have p451 : 0 ≤ (0 : Int) := (by omega); have q451 : 0 < (l1.length : Int) := of_decide_eq_true (by first | (with_reducible assumption) | assumption); obtain ⟨ad451, e451, hx451_0, hx451_1, hx451_2⟩ := at_T41 HR1.out 0 p451 q451; obtain rfl : ad447 = ad451 := (by injection e451); have qi451 : (0 < l1.length) = True := eq_true (by omega); (try rw [show ((0 : Int)).toNat = 0 from rfl] at hx451_0); (try rw [show 0 * 3 = 0 from rfl] at hx451_0); (try rw [Addr.add_zero'] at hx451_0); (try rw [show ((0 : Int)).toNat = 0 from rfl] at hx451_1); (try rw [show 0 * 3 = 0 from rfl] at hx451_1); (try rw [Addr.add_zero'] at hx451_1); (try rw [show ((0 : Int)).toNat = 0 from rfl] at hx451_2); (try rw [show 0 * 3 = 0 from rfl] at hx451_2); (try rw [Addr.add_zero'] at hx451_2); replace hx451_0 := (HB.out.cell (World.block_lt_of_cell? w _ hx451_0)).trans hx451_0; replace hx451_1 := (HB.out.cell (World.block_lt_of_cell? w _ hx451_1)).trans hx451_1; replace hx451_2 := (HB.out.cell (World.block_lt_of_cell? w _ hx451_2)).trans hx451_2; replace p451 := eq_true p451; replace q451 := eq_true q451))
               go_ret
               exact ⟨by first | rfl | (simp [errW_none, errW_some] <;> rfl) | (simp [*, errW_none, errW_some] <;> rfl), by repeat (first | (with_reducible first | exact HB.out | apply below_alloc | apply pw_below_drewN | apply below_drew1 | refine below_set ?_ GE440.out) | exact HB.out)⟩
              ·
               rw [if_neg c32] at H
               have c32b0 : (((rd_T41 l1 0).f1).toList == ([45] : List UInt8)) = false := beq_eq_false_iff_ne.mpr c32
               have c32b1 : (((rd_T41 l1 0).f1).toList != ([45] : List UInt8)) = true := bne_iff_ne.mpr c32
               have H' := Aside0.mk H
               clear H
               have p447 : 0 ≤ (x9_2 : Int) := of_decide_eq_true (by first | (with_reducible assumption) | assumption)
               have q447 : x9_2 < (l1.length : Int) := of_decide_eq_true (by first | (with_reducible assumption) | assumption)
               obtain ⟨ad447, e447, hx447_0, hx447_1, hx447_2⟩ := at_T41 HR1.out x9_2 p447 q447
               cases e447
               replace hx447_0 := (HB.out.cell (World.block_lt_of_cell? w _ hx447_0)).trans hx447_0
               replace hx447_1 := (HB.out.cell (World.block_lt_of_cell? w _ hx447_1)).trans hx447_1
               replace hx447_2 := (HB.out.cell (World.block_lt_of_cell? w _ hx447_2)).trans hx447_2
               replace p447 := eq_true p447
               replace q447 := eq_true q447
               go_wp2_with (first | ((with_reducible refine gate_callee (f := 20) rfl ?_); refine goesL_ (some 55) rfl rfl Tryd.func20 (by kernel_rfl) rfl #[.agg #[.int .u8 ((rd_T41 l1 x9_2).f0), .string ((rd_T41 l1 x9_2).f1), .int .i64 ((rd_T41 l1 x9_2).f2)]] rfl (by (try simp only [List.map_toArray, List.map_cons, List.map_nil]); first | done | rfl | (simp only [List.length_drop, List.length_take]; rfl)) ?_; (with_reducible refine (lex_Check.calls k2 ((rd_T41 l1 x9_2).f0) ((rd_T41 l1 x9_2).f1) ((rd_T41 l1 x9_2).f2) t448 _ ?side1 ?side2 A25.out).mono ?_); (case side1 => exact Lib.tabBelow_of_tabIs HT.out _ (by repeat (first | (with_reducible first | exact HB.out | apply below_alloc | apply pw_below_drewN | apply below_drew1 | refine below_set ?_ GE440.out) | exact HB.out))); (case side2 => exact HD_.out.below (by repeat (first | (with_reducible first | exact HB.out | apply below_alloc | apply pw_below_drewN | apply below_drew1 | refine below_set ?_ GE440.out) | exact HB.out))); rintro e w34 ⟨rfl, hb⟩; refine ⟨_, rfl, ?_⟩; have n0_ := Aside0.mk (Kd.R_below (by (with_reducible repeat (first | apply Kd.R_alloc | apply Kd.R_drewN | apply Kd.R_drew)); exact HO_6.out) hb); have n1_ := Aside0.mk (blk_below (g := gb440) (o := .cells #[.string a0_0, .string a0_1, .int .i64 a0_2, .int .u8 a0_3] 23 (0, 0)) (by (with_reducible repeat (first | refine blk_drewN ?_ _ | refine blk_drew ?_ | refine blk_alloc ?_ _)); exact BK440.out) hb); have n2_ := Aside0.mk (below_step (by repeat (first | (with_reducible first | exact HB.out | apply below_alloc | apply pw_below_drewN | apply below_drew1 | refine below_set ?_ GE440.out) | exact HB.out)) hb); clear HO_6; clear BK440; clear HB; have HO_6 := n0_; have BK440 := n1_; have HB := n2_; clear n0_ n1_ n2_; (try clear hb); (try clear hb2); (try clear hk); (try clear hi); have p449 : 0 ≤ (0 : Int) := (by omega); have q449 : 0 < (l1.length : Int) := of_decide_eq_true (by first | (with_reducible assumption) | assumption); obtain ⟨ad449, e449, hx449_0, hx449_1, hx449_2⟩ := at_T41 HR1.out 0 p449 q449; obtain rfl : ad447 = ad449 := (by injection e449); have qi449 : (0 < l1.length) = True := eq_true (by omega); (try rw [show ((0 : Int)).toNat = 0 from rfl] at hx449_0); (try rw [show 0 * 3 = 0 from rfl] at hx449_0); (try rw [Addr.add_zero'] at hx449_0); (try rw [show ((0 : Int)).toNat = 0 from rfl] at hx449_1); (try rw [show 0 * 3 = 0 from rfl] at hx449_1); (try rw [Addr.add_zero'] at hx449_1); (try rw [show ((0 : Int)).toNat = 0 from rfl] at hx449_2); (try rw [show 0 * 3 = 0 from rfl] at hx449_2); (try rw [Addr.add_zero'] at hx449_2); replace hx449_0 := (HB.out.cell (World.block_lt_of_cell? w _ hx449_0)).trans hx449_0; replace hx449_1 := (HB.out.cell (World.block_lt_of_cell? w _ hx449_1)).trans hx449_1; replace hx449_2 := (HB.out.cell (World.block_lt_of_cell? w _ hx449_2)).trans hx449_2; replace p449 := eq_true p449; replace q449 := eq_true q449; have p450 : 0 ≤ (0 : Int) := (by omega); have q450 : 0 < (l1.length : Int) := of_decide_eq_true (by first | (with_reducible assumption) | assumption); obtain ⟨ad450, e450, hx450_0, hx450_1, hx450_2⟩ := at_T41 HR1.out 0 p450 q450; obtain rfl : ad447 = ad450 := (by injection e450); have qi450 : (0 < l1.length) = True := eq_true (by omega); (try rw [show ((0 : Int)).toNat = 0 from rfl] at hx450_0); (try rw [show 0 * 3 = 0 from rfl] at hx450_0); (try rw [Addr.add_zero'] at hx450_0); (try rw [show ((0 : Int)).toNat = 0 from rfl] at hx450_1); (try rw [show 0 * 3 = 0 from rfl] at hx450_1); (try rw [Addr.add_zero'] at hx450_1); (try rw [show ((0 : Int)).toNat = 0 from rfl] at hx450_2); (try rw [show 0 * 3 = 0 from rfl] at hx450_2); (try rw [Addr.add_zero'] at hx450_2); replace hx450_0 := (HB.out.cell (World.block_lt_of_cell? w _ hx450_0)).trans hx450_0; replace hx450_1 := (HB.out.cell (World.block_lt_of_cell? w _ hx450_1)).trans hx450_1; replace hx450_2 := (HB.out.cell (World.block_lt_of_cell? w _ hx450_2)).trans hx450_2; replace p450 := eq_true p450; replace q450 := eq_true q450; have p451 : 0 ≤ (0 : Int) := (by omega); have q451 : 0 < (l1.length : Int) := of_decide_eq_true (by first | (with_reducible assumption) | assumption); obtain ⟨ad451, e451, hx451_0, hx451_1, hx451_2⟩ := at_T41 HR1.out 0 p451 q451; obtain rfl : ad447 = ad451 := (by injection e451); have qi451 : (0 < l1.length) = True := eq_true (by omega); (try rw [show ((0 : Int)).toNat = 0 from rfl] at hx451_0); (try rw [show 0 * 3 = 0 from rfl] at hx451_0); (try rw [Addr.add_zero'] at hx451_0); (try rw [show ((0 : Int)).toNat = 0 from rfl] at hx451_1); (try rw [show 0 * 3 = 0 from rfl] at hx451_1); (try rw [Addr.add_zero'] at hx451_1); (try rw [show ((0 : Int)).toNat = 0 from rfl] at hx451_2); (try rw [show 0 * 3 = 0 from rfl] at hx451_2); (try rw [Addr.add_zero'] at hx451_2); replace hx451_0 := (HB.out.cell (World.block_lt_of_cell? w _ hx451_0)).trans hx451_0; replace hx451_1 := (HB.out.cell (World.block_lt_of_cell? w _ hx451_1)).trans hx451_1; replace hx451_2 := (HB.out.cell (World.block_lt_of_cell? w _ hx451_2)).trans hx451_2; replace p451 := eq_true p451; replace q451 := eq_true q451))
               go_roundg k2
               case measure => have := HJ3.out; have := HK2.out; omega
               case rel => exact ⟨(wrap64 (x9_2 + 1)), (by first | rfl | (simp; done) | (simp [*]; done)), H', ⟨by have := HJ3.out; have := HK2.out; omega⟩, ⟨by (with_reducible repeat (first | apply Kd.R_alloc | apply Kd.R_drewN | apply Kd.R_drew)); exact HO_6.out⟩, ⟨by (with_reducible repeat (first | refine blk_drewN ?_ _ | refine blk_drew ?_ | refine blk_alloc ?_ _)); exact BK440.out⟩, ⟨by repeat (first | (with_reducible first | exact HB.out | apply below_alloc | apply pw_below_drewN | apply below_drew1 | refine below_set ?_ GE440.out) | exact HB.out)⟩⟩
            ·
             rw [if_neg c29] at H
             have c29b0 : (((rd_T41 l1 0).f0) == 4) = false := beq_eq_false_iff_ne.mpr c29
             have c29b1 : (((rd_T41 l1 0).f0) != 4) = true := bne_iff_ne.mpr c29
             have H' := Aside0.mk H
             clear H
             have p447 : 0 ≤ (x9_2 : Int) := of_decide_eq_true (by first | (with_reducible assumption) | assumption)
             have q447 : x9_2 < (l1.length : Int) := of_decide_eq_true (by first | (with_reducible assumption) | assumption)
             obtain ⟨ad447, e447, hx447_0, hx447_1, hx447_2⟩ := at_T41 HR1.out x9_2 p447 q447
             cases e447
             replace hx447_0 := (HB.out.cell (World.block_lt_of_cell? w _ hx447_0)).trans hx447_0
             replace hx447_1 := (HB.out.cell (World.block_lt_of_cell? w _ hx447_1)).trans hx447_1
             replace hx447_2 := (HB.out.cell (World.block_lt_of_cell? w _ hx447_2)).trans hx447_2
             replace p447 := eq_true p447
             replace q447 := eq_true q447
             go_wp2_with (first | ((with_reducible refine gate_callee (f := 20) rfl ?_); refine goesL_ (some 55) rfl rfl Tryd.func20 (by kernel_rfl) rfl #[.agg #[.int .u8 ((rd_T41 l1 x9_2).f0), .string ((rd_T41 l1 x9_2).f1), .int .i64 ((rd_T41 l1 x9_2).f2)]] rfl (by (try simp only [List.map_toArray, List.map_cons, List.map_nil]); first | done | rfl | (simp only [List.length_drop, List.length_take]; rfl)) ?_; (with_reducible refine (lex_Check.calls k2 ((rd_T41 l1 x9_2).f0) ((rd_T41 l1 x9_2).f1) ((rd_T41 l1 x9_2).f2) t448 _ ?side1 ?side2 A25.out).mono ?_); (case side1 => exact Lib.tabBelow_of_tabIs HT.out _ (by repeat (first | (with_reducible first | exact HB.out | apply below_alloc | apply pw_below_drewN | apply below_drew1 | refine below_set ?_ GE440.out) | exact HB.out))); (case side2 => exact HD_.out.below (by repeat (first | (with_reducible first | exact HB.out | apply below_alloc | apply pw_below_drewN | apply below_drew1 | refine below_set ?_ GE440.out) | exact HB.out))); rintro e w35 ⟨rfl, hb⟩; refine ⟨_, rfl, ?_⟩; have n0_ := Aside0.mk (Kd.R_below (by (with_reducible repeat (first | apply Kd.R_alloc | apply Kd.R_drewN | apply Kd.R_drew)); exact HO_6.out) hb); have n1_ := Aside0.mk (blk_below (g := gb440) (o := .cells #[.string a0_0, .string a0_1, .int .i64 a0_2, .int .u8 a0_3] 23 (0, 0)) (by (with_reducible repeat (first | refine blk_drewN ?_ _ | refine blk_drew ?_ | refine blk_alloc ?_ _)); exact BK440.out) hb); have n2_ := Aside0.mk (below_step (by repeat (first | (with_reducible first | exact HB.out | apply below_alloc | apply pw_below_drewN | apply below_drew1 | refine below_set ?_ GE440.out) | exact HB.out)) hb); clear HO_6; clear BK440; clear HB; have HO_6 := n0_; have BK440 := n1_; have HB := n2_; clear n0_ n1_ n2_; (try clear hb); (try clear hb2); (try clear hk); (try clear hi); have p449 : 0 ≤ (0 : Int) := (by omega); have q449 : 0 < (l1.length : Int) := of_decide_eq_true (by first | (with_reducible assumption) | assumption); obtain ⟨ad449, e449, hx449_0, hx449_1, hx449_2⟩ := at_T41 HR1.out 0 p449 q449; obtain rfl : ad447 = ad449 := (by injection e449); have qi449 : (0 < l1.length) = True := eq_true (by omega); (try rw [show ((0 : Int)).toNat = 0 from rfl] at hx449_0); (try rw [show 0 * 3 = 0 from rfl] at hx449_0); (try rw [Addr.add_zero'] at hx449_0); (try rw [show ((0 : Int)).toNat = 0 from rfl] at hx449_1); (try rw [show 0 * 3 = 0 from rfl] at hx449_1); (try rw [Addr.add_zero'] at hx449_1); (try rw [show ((0 : Int)).toNat = 0 from rfl] at hx449_2); (try rw [show 0 * 3 = 0 from rfl] at hx449_2); (try rw [Addr.add_zero'] at hx449_2); replace hx449_0 := (HB.out.cell (World.block_lt_of_cell? w _ hx449_0)).trans hx449_0; replace hx449_1 := (HB.out.cell (World.block_lt_of_cell? w _ hx449_1)).trans hx449_1; replace hx449_2 := (HB.out.cell (World.block_lt_of_cell? w _ hx449_2)).trans hx449_2; replace p449 := eq_true p449; replace q449 := eq_true q449))
             go_roundg k2
             case measure => have := HJ3.out; have := HK2.out; omega
             case rel => exact ⟨(wrap64 (x9_2 + 1)), (by first | rfl | (simp; done) | (simp [*]; done)), H', ⟨by have := HJ3.out; have := HK2.out; omega⟩, ⟨by (with_reducible repeat (first | apply Kd.R_alloc | apply Kd.R_drewN | apply Kd.R_drew)); exact HO_6.out⟩, ⟨by (with_reducible repeat (first | refine blk_drewN ?_ _ | refine blk_drew ?_ | refine blk_alloc ?_ _)); exact BK440.out⟩, ⟨by repeat (first | (with_reducible first | exact HB.out | apply below_alloc | apply pw_below_drewN | apply below_drew1 | refine below_set ?_ GE440.out) | exact HB.out)⟩⟩
           ·
            rw [if_neg c28] at H
            exact absurd H (by simp)
          ·
           rw [if_neg c27] at H
           have c27b0 : (x9_2 == 0) = false := beq_eq_false_iff_ne.mpr c27
           have c27b1 : (x9_2 != 0) = true := bne_iff_ne.mpr c27
           have H' := Aside0.mk H
           clear H
           have p447 : 0 ≤ (x9_2 : Int) := of_decide_eq_true (by first | (with_reducible assumption) | assumption)
           have q447 : x9_2 < (l1.length : Int) := of_decide_eq_true (by first | (with_reducible assumption) | assumption)
           obtain ⟨ad447, e447, hx447_0, hx447_1, hx447_2⟩ := at_T41 HR1.out x9_2 p447 q447
           cases e447
           replace hx447_0 := (HB.out.cell (World.block_lt_of_cell? w _ hx447_0)).trans hx447_0
           replace hx447_1 := (HB.out.cell (World.block_lt_of_cell? w _ hx447_1)).trans hx447_1
           replace hx447_2 := (HB.out.cell (World.block_lt_of_cell? w _ hx447_2)).trans hx447_2
           replace p447 := eq_true p447
           replace q447 := eq_true q447
           go_wp2_with (first | ((with_reducible refine gate_callee (f := 20) rfl ?_); refine goesL_ (some 55) rfl rfl Tryd.func20 (by kernel_rfl) rfl #[.agg #[.int .u8 ((rd_T41 l1 x9_2).f0), .string ((rd_T41 l1 x9_2).f1), .int .i64 ((rd_T41 l1 x9_2).f2)]] rfl (by (try simp only [List.map_toArray, List.map_cons, List.map_nil]); first | done | rfl | (simp only [List.length_drop, List.length_take]; rfl)) ?_; (with_reducible refine (lex_Check.calls k2 ((rd_T41 l1 x9_2).f0) ((rd_T41 l1 x9_2).f1) ((rd_T41 l1 x9_2).f2) t448 _ ?side1 ?side2 A25.out).mono ?_); (case side1 => exact Lib.tabBelow_of_tabIs HT.out _ (by repeat (first | (with_reducible first | exact HB.out | apply below_alloc | apply pw_below_drewN | apply below_drew1 | refine below_set ?_ GE440.out) | exact HB.out))); (case side2 => exact HD_.out.below (by repeat (first | (with_reducible first | exact HB.out | apply below_alloc | apply pw_below_drewN | apply below_drew1 | refine below_set ?_ GE440.out) | exact HB.out))); rintro e w36 ⟨rfl, hb⟩; refine ⟨_, rfl, ?_⟩; have n0_ := Aside0.mk (Kd.R_below (by (with_reducible repeat (first | apply Kd.R_alloc | apply Kd.R_drewN | apply Kd.R_drew)); exact HO_6.out) hb); have n1_ := Aside0.mk (blk_below (g := gb440) (o := .cells #[.string a0_0, .string a0_1, .int .i64 a0_2, .int .u8 a0_3] 23 (0, 0)) (by (with_reducible repeat (first | refine blk_drewN ?_ _ | refine blk_drew ?_ | refine blk_alloc ?_ _)); exact BK440.out) hb); have n2_ := Aside0.mk (below_step (by repeat (first | (with_reducible first | exact HB.out | apply below_alloc | apply pw_below_drewN | apply below_drew1 | refine below_set ?_ GE440.out) | exact HB.out)) hb); clear HO_6; clear BK440; clear HB; have HO_6 := n0_; have BK440 := n1_; have HB := n2_; clear n0_ n1_ n2_; (try clear hb); (try clear hb2); (try clear hk); (try clear hi)))
           go_roundg k2
           case measure => have := HJ3.out; have := HK2.out; omega
           case rel => exact ⟨(wrap64 (x9_2 + 1)), (by first | rfl | (simp; done) | (simp [*]; done)), H', ⟨by have := HJ3.out; have := HK2.out; omega⟩, ⟨by (with_reducible repeat (first | apply Kd.R_alloc | apply Kd.R_drewN | apply Kd.R_drew)); exact HO_6.out⟩, ⟨by (with_reducible repeat (first | refine blk_drewN ?_ _ | refine blk_drew ?_ | refine blk_alloc ?_ _)); exact BK440.out⟩, ⟨by repeat (first | (with_reducible first | exact HB.out | apply below_alloc | apply pw_below_drewN | apply below_drew1 | refine below_set ?_ GE440.out) | exact HB.out)⟩⟩
         ·
          rw [if_neg c26] at H
          have c26b0 : (t448 == 0) = false := beq_eq_false_iff_ne.mpr c26
          have c26b1 : (t448 != 0) = true := bne_iff_ne.mpr c26
          obtain rfl := Option.some.inj H
          have p447 : 0 ≤ (x9_2 : Int) := of_decide_eq_true (by first | (with_reducible assumption) | assumption)
          have q447 : x9_2 < (l1.length : Int) := of_decide_eq_true (by first | (with_reducible assumption) | assumption)
          obtain ⟨ad447, e447, hx447_0, hx447_1, hx447_2⟩ := at_T41 HR1.out x9_2 p447 q447
          cases e447
          replace hx447_0 := (HB.out.cell (World.block_lt_of_cell? w _ hx447_0)).trans hx447_0
          replace hx447_1 := (HB.out.cell (World.block_lt_of_cell? w _ hx447_1)).trans hx447_1
          replace hx447_2 := (HB.out.cell (World.block_lt_of_cell? w _ hx447_2)).trans hx447_2
          replace p447 := eq_true p447
          replace q447 := eq_true q447
          go_wp2_with (first | ((with_reducible refine gate_callee (f := 20) rfl ?_); refine goesL_ (some 55) rfl rfl Tryd.func20 (by kernel_rfl) rfl #[.agg #[.int .u8 ((rd_T41 l1 x9_2).f0), .string ((rd_T41 l1 x9_2).f1), .int .i64 ((rd_T41 l1 x9_2).f2)]] rfl (by (try simp only [List.map_toArray, List.map_cons, List.map_nil]); first | done | rfl | (simp only [List.length_drop, List.length_take]; rfl)) ?_; (with_reducible refine (lex_Check.calls k2 ((rd_T41 l1 x9_2).f0) ((rd_T41 l1 x9_2).f1) ((rd_T41 l1 x9_2).f2) t448 _ ?side1 ?side2 A25.out).mono ?_); (case side1 => exact Lib.tabBelow_of_tabIs HT.out _ (by repeat (first | (with_reducible first | exact HB.out | apply below_alloc | apply pw_below_drewN | apply below_drew1 | refine below_set ?_ GE440.out) | exact HB.out))); (case side2 => exact HD_.out.below (by repeat (first | (with_reducible first | exact HB.out | apply below_alloc | apply pw_below_drewN | apply below_drew1 | refine below_set ?_ GE440.out) | exact HB.out))); rintro e w37 ⟨rfl, hb⟩; refine ⟨_, rfl, ?_⟩; have n0_ := Aside0.mk (Kd.R_below (by (with_reducible repeat (first | apply Kd.R_alloc | apply Kd.R_drewN | apply Kd.R_drew)); exact HO_6.out) hb); have n1_ := Aside0.mk (blk_below (g := gb440) (o := .cells #[.string a0_0, .string a0_1, .int .i64 a0_2, .int .u8 a0_3] 23 (0, 0)) (by (with_reducible repeat (first | refine blk_drewN ?_ _ | refine blk_drew ?_ | refine blk_alloc ?_ _)); exact BK440.out) hb); have n2_ := Aside0.mk (below_step (by repeat (first | (with_reducible first | exact HB.out | apply below_alloc | apply pw_below_drewN | apply below_drew1 | refine below_set ?_ GE440.out) | exact HB.out)) hb); clear HO_6; clear BK440; clear HB; have HO_6 := n0_; have BK440 := n1_; have HB := n2_; clear n0_ n1_ n2_; (try clear hb); (try clear hb2); (try clear hk); (try clear hi)))
          go_ret
          exact ⟨by first | rfl | (simp [errW_none, errW_some] <;> rfl) | (simp [*, errW_none, errW_some] <;> rfl), by repeat (first | (with_reducible first | exact HB.out | apply below_alloc | apply pw_below_drewN | apply below_drew1 | refine below_set ?_ GE440.out) | exact HB.out)⟩
        ·
         rw [if_neg c24] at H
         exact absurd H (by simp)
       ·
        rw [if_neg c23] at H
        have c23b0 : decide (x9_2 < (l1.length : Int)) = false := decide_eq_false c23
        clear c23
        by_cases c38 : t443.length + l1.length < 4398046511104
        ·
         rw [if_pos c38] at H
         have LMc38 := Aside0.mk c38
         clear c38
         obtain ⟨y452, hy452⟩ : ∃ y_ : List (S41), y_ = (t443 ++ l1) := ⟨_, rfl⟩
         replace H : ((expr_Parse.f y452 0).bind fun bt455 => (if bt455.2.2.2.2.2 = 0 then (if (bt455.1.toList == a0_0.toList && (bt455.2.1.toList == a0_1.toList && (bt455.2.2.1 == a0_2 && (bt455.2.2.2.1 == a0_3)))) = true then (some (bt455.2.2.2.2.1 == (t443.length : Int))) else (none)) else (none))) = some r := by first | (rw [hy452]; with_reducible exact H) | (have H2_ := (Option.bind_some _ _).symm.trans H; rw [hy452]; with_reducible exact H2_) | (have H2_ := (Option.bind_some _ _).symm.trans H; with_reducible exact H2_) | with_reducible exact H | (rw [hy452]; exact H) | exact H
         have Ny452 := Aside0.mk hy452
         clear hy452
         replace H := Option.bind_eq_some_iff.mp H
         obtain ⟨⟨t455, t456, t457, t458, t459, t460⟩, A390, H⟩ := H
         replace H : (if t460 = 0 then (if (t455.toList == a0_0.toList && (t456.toList == a0_1.toList && (t457 == a0_2 && (t458 == a0_3)))) = true then (some (t459 == (t443.length : Int))) else (none)) else (none)) = some r := H
         have A39 := Aside0.mk A390
         clear A390
         by_cases c40 : t460 = 0
         ·
          rw [if_pos c40] at H
          have c40b0 : (t460 == 0) = true := beq_iff_eq.mpr c40
          have c40b1 : (t460 != 0) = false := bne_eq_false_iff_eq.mpr c40
          clear c40
          by_cases c41 : (t455.toList == a0_0.toList && (t456.toList == a0_1.toList && (t457 == a0_2 && (t458 == a0_3)))) = true
          ·
           rw [if_pos c41] at H
           have c41b0 : (t455.toList == a0_0.toList && (t456.toList == a0_1.toList && (t457 == a0_2 && (t458 == a0_3)))) = true := c41
           (try (have c41b1 : decide (t455.toList = a0_0.toList && (t456.toList == a0_1.toList && (t457 == a0_2 && (t458 == a0_3)))) = true := by simpa using c41))
           (try (have c41b2 : (t455.toList == a0_0.toList && (t456.toList == a0_1.toList && (t457 == a0_2 && (t458 == a0_3)))) = true := by simpa using c41))
           (try (have c41b3 : t455.toList = a0_0.toList ∧ t456.toList = a0_1.toList ∧ t457 = a0_2 ∧ t458 = a0_3 := by simpa using c41))
           clear c41
           obtain rfl := Option.some.inj H
           go_wp2_with (first | ((with_reducible refine gate_builtin (b := .append) (xs := #[.tmp 82, .tmp 83]) rfl ?_); (try (refine gate_guard (by rfl) ?_; dsimp only)); at_builtin; refine Kd.R_append_rows k41 (w0 := w) w.heap.size rfl (.tmp 82) (.tmp 83) 24 41 (.agg #[(.int .u8 0), (.string ⟨#[]⟩), (.int .i64 0)]) 32 rfl Tryd.underlying24 info41 rfl (by decide) (by omega) (.slice Ao22 t443.length co22) t443 l1 _ _ _ (fun _ => True) (fun _ => False) rfl rfl ?aO ?aR (fun _ _ h => h) (fun _ h => h.elim) ?aF ?aB ?aS ?aL ?_; (case aR => repeat (first | exact (Kd.C_below HR1.out HB.out) | (with_reducible refine Kd.C_alloc ?_ _) | (with_reducible refine Kd.C_drewN ?_ _) | (with_reducible refine Kd.C_drew ?_))); (case aB => exact (by repeat (first | (with_reducible first | exact HB.out | apply below_alloc | apply pw_below_drewN | apply below_drew1 | refine below_set ?_ GE440.out) | exact HB.out))); (case aF => exact (fun _ _ => trivial)); (case aO => exact (by (with_reducible repeat (first | apply Kd.R_alloc | apply Kd.R_drewN | apply Kd.R_drew)); exact HO_6.out)); (case aS => exact (below_size (by repeat (first | (with_reducible first | exact HB.out | apply below_alloc | apply pw_below_drewN | apply below_drew1 | refine below_set ?_ GE440.out) | exact HB.out)))); (case aL => have := LMc38.out; omega); intro v453 w42 ho hb hg hat; rw [← Ny452.out] at ho; have n0_ := Aside0.mk (blk_grown (g := gb440) (o := .cells #[.string a0_0, .string a0_1, .int .i64 a0_2, .int .u8 a0_3] 23 (0, 0)) (by (with_reducible repeat (first | refine blk_drewN ?_ _ | refine blk_drew ?_ | refine blk_alloc ?_ _)); exact BK440.out) hg (Kd.R_ne HO_6.out BK440.out (by decide))); have n1_ := Aside0.mk (hb); have n2_ := Aside0.mk (ho); clear BK440; clear HB; clear HO_6; have BK440 := n0_; have HB := n1_; have HO454 := n2_; clear n0_ n1_ n2_; clear ho hb hg hat; obtain ⟨Ao43, co43, eo43⟩ := Kd.R_slice HO454.out; subst eo43) | ((with_reducible refine gate_callee (f := 15) rfl ?_); refine goesL_ (some 87) rfl rfl Tryd.func15 (by kernel_rfl) rfl #[.slice Ao43 y452.length co43, .int .i64 0] rfl (by (try simp only [List.map_toArray, List.map_cons, List.map_nil]); first | done | rfl | (simp only [List.length_drop, List.length_take]; rfl)) ?_; (with_reducible refine (expr_Parse.calls _ _ y452 0 t455 t456 t457 t458 t459 t460 _ ?side1 ?side2 ?side3 ?side4 ?side5 A39.out).mono ?_); (case side1 => repeat (first | exact (Kd.R_reads' HO454.out).2.2 | (with_reducible refine Kd.C_alloc ?_ _) | (with_reducible refine Kd.C_drewN ?_ _) | (with_reducible refine Kd.C_drew ?_))); (case side2 => exact (Kd.R_reads' HO454.out).2.1); (case side3 => exact Lib.tabBelow_of_tabIs HT.out _ (by repeat (first | (with_reducible first | exact HB.out | apply below_alloc | apply pw_below_drewN | apply below_drew1 | refine below_set ?_ GE440.out) | exact HB.out))); (case side4 => exact HD_.out.below (by repeat (first | (with_reducible first | exact HB.out | apply below_alloc | apply pw_below_drewN | apply below_drew1 | refine below_set ?_ GE440.out) | exact HB.out))); (case side5 => exact HM_.out.below (by repeat (first | (with_reducible first | exact HB.out | apply below_alloc | apply pw_below_drewN | apply below_drew1 | refine below_set ?_ GE440.out) | exact HB.out))); rintro e w44 ⟨rfl, hb⟩; refine ⟨_, rfl, ?_⟩; have n0_ := Aside0.mk (Kd.R_below (by (with_reducible repeat (first | apply Kd.R_alloc | apply Kd.R_drewN | apply Kd.R_drew)); exact HO454.out) hb); have n1_ := Aside0.mk (blk_below (g := gb440) (o := .cells #[.string a0_0, .string a0_1, .int .i64 a0_2, .int .u8 a0_3] 23 (0, 0)) (by (with_reducible repeat (first | refine blk_drewN ?_ _ | refine blk_drew ?_ | refine blk_alloc ?_ _)); exact BK440.out) hb); have n2_ := Aside0.mk (below_step (by repeat (first | (with_reducible first | exact HB.out | apply below_alloc | apply pw_below_drewN | apply below_drew1 | refine below_set ?_ GE440.out) | exact HB.out)) hb); clear HO454; clear BK440; clear HB; have HO454 := n0_; have BK440 := n1_; have HB := n2_; clear n0_ n1_ n2_; (try clear hb); (try clear hb2); (try clear hk); (try clear hi)) | ((with_reducible refine gate_dst (N := 10) rfl ?_); (try (refine gate_guard (by rfl) ?_; dsimp only)); refine box_event ?hg (N := 10) ?hd (cs := #[.string (⟨#[]⟩ : ByteArray), .string (⟨#[]⟩ : ByteArray), .int .i64 0, .int .u8 0]) (t := 23) ?hr ?_; (case hd => rfl); (case hg => rfl); (case hr => first | (go_simp; done) | (go_simp; rfl)); intro gb461 hg w45 hbox hb; have n0_ := Aside0.mk (Kd.R_below (by (with_reducible repeat (first | apply Kd.R_alloc | apply Kd.R_drewN | apply Kd.R_drew)); exact HO454.out) hb); have n1_ := Aside0.mk (blk_below (g := gb440) (o := .cells #[.string a0_0, .string a0_1, .int .i64 a0_2, .int .u8 a0_3] 23 (0, 0)) (by (with_reducible repeat (first | refine blk_drewN ?_ _ | refine blk_drew ?_ | refine blk_alloc ?_ _)); exact BK440.out) hb); have n2_ := Aside0.mk (below_step (by repeat (first | (with_reducible first | exact HB.out | apply below_alloc | apply pw_below_drewN | apply below_drew1 | refine below_set ?_ GE440.out) | exact HB.out)) hb); have n3_ := Aside0.mk (hbox); have n4_ := Aside0.mk ((by rw [hg]; exact (below_size (by repeat (first | (with_reducible first | exact HB.out | apply below_alloc | apply pw_below_drewN | apply below_drew1 | refine below_set ?_ GE440.out) | exact HB.out))) : w.heap.size ≤ gb461)); have n5_ := Aside0.mk ((by rw [hg]; exact (below_size (by repeat (first | (with_reducible first | exact HB.out | apply below_alloc | apply pw_below_drewN | apply below_drew1 | refine below_set ?_ GE440.out) | exact HB.out))) : w.heap.size ≤ gb461)); have n6_ := Aside0.mk ((by rw [hg]; exact Nat.ne_of_lt (blk_lt (g := gb440) (o := .cells #[.string a0_0, .string a0_1, .int .i64 a0_2, .int .u8 a0_3] 23 (0, 0)) (by (with_reducible repeat (first | refine blk_drewN ?_ _ | refine blk_drew ?_ | refine blk_alloc ?_ _)); exact BK440.out)) : gb440 ≠ gb461)); have n7_ := Aside0.mk ((by rw [hg]; exact Nat.ne_of_gt (blk_lt (g := gb440) (o := .cells #[.string a0_0, .string a0_1, .int .i64 a0_2, .int .u8 a0_3] 23 (0, 0)) (by (with_reducible repeat (first | refine blk_drewN ?_ _ | refine blk_drew ?_ | refine blk_alloc ?_ _)); exact BK440.out)) : gb461 ≠ gb440)); clear HO454; clear BK440; clear HB; have HO454 := n0_; have BK440 := n1_; have HB := n2_; have BK461 := n3_; have GW461 := n4_; have GE461 := n5_; have NB440_461 := n6_; have NB461_440 := n7_; clear n0_ n1_ n2_ n3_ n4_ n5_ n6_ n7_; clear hb hbox hg; have hnb46 := NB461_440.out; have hnc46 := NB440_461.out; have hcz47_0 : w45.cell? ⟨gb461, 0, none⟩ = some (.string (⟨#[]⟩ : ByteArray)) := (blk_cell BK461.out 0).trans rfl; have hcz47_1 : w45.cell? ⟨gb461, 1, none⟩ = some (.string (⟨#[]⟩ : ByteArray)) := (blk_cell BK461.out 1).trans rfl; have hcz47_2 : w45.cell? ⟨gb461, 2, none⟩ = some (.int .i64 0) := (blk_cell BK461.out 2).trans rfl; have hcz47_3 : w45.cell? ⟨gb461, 3, none⟩ = some (.int .u8 0) := (blk_cell BK461.out 3).trans rfl; have hfz47_0 := blk_frozen BK461.out 0; have hfz47_1 := blk_frozen BK461.out 1; have hfz47_2 := blk_frozen BK461.out 2; have hfz47_3 := blk_frozen BK461.out 3; have hcz48_0 : w45.cell? ⟨gb440, 0, none⟩ = some (.string a0_0) := (blk_cell BK440.out 0).trans rfl; have hcz48_1 : w45.cell? ⟨gb440, 1, none⟩ = some (.string a0_1) := (blk_cell BK440.out 1).trans rfl; have hcz48_2 : w45.cell? ⟨gb440, 2, none⟩ = some (.int .i64 a0_2) := (blk_cell BK440.out 2).trans rfl; have hcz48_3 : w45.cell? ⟨gb440, 3, none⟩ = some (.int .u8 a0_3) := (blk_cell BK440.out 3).trans rfl; have hfz48_0 := blk_frozen BK440.out 0; have hfz48_1 := blk_frozen BK440.out 1; have hfz48_2 := blk_frozen BK440.out 2; have hfz48_3 := blk_frozen BK440.out 3))
           go_ret
           exact ⟨by first | rfl | (simp [errW_none, errW_some] <;> rfl) | (simp [*, errW_none, errW_some] <;> rfl), by repeat (first | (with_reducible first | exact HB.out | apply below_alloc | apply pw_below_drewN | apply below_drew1 | refine below_set ?_ GE440.out | refine below_set ?_ GE461.out) | exact HB.out)⟩
          ·
           rw [if_neg c41] at H
           exact absurd H (by simp)
         ·
          rw [if_neg c40] at H
          exact absurd H (by simp)
        ·
         rw [if_neg c38] at H
         exact absurd H (by simp)
    ·
     rw [if_neg c19] at H
     have c19b0 : (t446 == 0) = false := beq_eq_false_iff_ne.mpr c19
     have c19b1 : (t446 != 0) = true := bne_iff_ne.mpr c19
     obtain rfl := Option.some.inj H
     have hcz49_0 : wc.cell? ⟨gb440, 0, none⟩ = some (.string a0_0) := (blk_cell BK440.out 0).trans rfl
     have hcz49_1 : wc.cell? ⟨gb440, 1, none⟩ = some (.string a0_1) := (blk_cell BK440.out 1).trans rfl
     have hcz49_2 : wc.cell? ⟨gb440, 2, none⟩ = some (.int .i64 a0_2) := (blk_cell BK440.out 2).trans rfl
     have hcz49_3 : wc.cell? ⟨gb440, 3, none⟩ = some (.int .u8 a0_3) := (blk_cell BK440.out 3).trans rfl
     have hfz49_0 := blk_frozen BK440.out 0
     have hfz49_1 := blk_frozen BK440.out 1
     have hfz49_2 := blk_frozen BK440.out 2
     have hfz49_3 := blk_frozen BK440.out 3
     go_wp2_with (first | ((with_reducible refine gate_callee (f := 9) rfl ?_); refine goesL_ (some 35) rfl rfl Tryd.func9 (by kernel_rfl) rfl #[.agg #[.string a0_0, .string a0_1, .int .i64 a0_2, .int .u8 a0_3]] rfl (by (try simp only [List.map_toArray, List.map_cons, List.map_nil]); first | done | rfl | (simp only [List.length_drop, List.length_take]; rfl)) ?_; (with_reducible refine (expr_Tokens.calls a0_0 a0_1 a0_2 a0_3 t443 t446 _ ?side1 ?side2 ?side3 A18.out).mono ?_); (case side1 => exact Lib.tabBelow_of_tabIs HT.out _ (by repeat (first | (with_reducible first | exact HB.out | apply below_alloc | apply pw_below_drewN | apply below_drew1 | refine below_set ?_ GE440.out) | exact HB.out))); (case side2 => exact HD_.out.below (by repeat (first | (with_reducible first | exact HB.out | apply below_alloc | apply pw_below_drewN | apply below_drew1 | refine below_set ?_ GE440.out) | exact HB.out))); (case side3 => exact HM_.out.below (by repeat (first | (with_reducible first | exact HB.out | apply below_alloc | apply pw_below_drewN | apply below_drew1 | refine below_set ?_ GE440.out) | exact HB.out))); rintro e w50 ⟨v444, rfl, ho0, hb⟩; refine ⟨_, rfl, ?_⟩; have n0_ := Aside0.mk (Kd.R_lower ho0 (below_size (by repeat (first | (with_reducible first | exact HB.out | apply below_alloc | apply pw_below_drewN | apply below_drew1 | refine below_set ?_ GE440.out) | exact HB.out)))); have n1_ := Aside0.mk (blk_below (g := gb440) (o := .cells #[.string a0_0, .string a0_1, .int .i64 a0_2, .int .u8 a0_3] 23 (0, 0)) (by (with_reducible repeat (first | refine blk_drewN ?_ _ | refine blk_drew ?_ | refine blk_alloc ?_ _)); exact BK440.out) hb); have n2_ := Aside0.mk (below_step (by repeat (first | (with_reducible first | exact HB.out | apply below_alloc | apply pw_below_drewN | apply below_drew1 | refine below_set ?_ GE440.out) | exact HB.out)) hb); clear BK440; clear HB; have HO445 := n0_; have BK440 := n1_; have HB := n2_; clear n0_ n1_ n2_; (try clear hb); (try clear hb2); (try clear hk); (try clear hi); (try clear ho0); obtain ⟨Ao51, co51, eo51⟩ := Kd.R_slice HO445.out; subst eo51))
     go_ret
     exact ⟨by first | rfl | (simp [errW_none, errW_some] <;> rfl) | (simp [*, errW_none, errW_some] <;> rfl), by repeat (first | (with_reducible first | exact HB.out | apply below_alloc | apply pw_below_drewN | apply below_drew1 | refine below_set ?_ GE440.out) | exact HB.out)⟩

/-- THE ONE PURE STATEMENT of quoinlaw16_ExprBack: yours. -/
def quoinlaw16_ExprBack.Pure : Prop := ∀ (a0_0 : ByteArray) (a0_1 : ByteArray) (a0_2 : Int) (a0_3 : Int) (l1 : List (S41)), a0_0.size ≤ maxLen → a0_1.size ≤ maxLen → (Lit.int .i64 a0_2).wf = true → (Lit.int .u8 a0_3).wf = true → (l1.length ≤ maxLen ∧ ∀ x0_ ∈ l1, wfS41 x0_) → ∃ k, quoinlaw16_ExprBack.f k a0_0 a0_1 a0_2 a0_3 l1 = some true
theorem quoinlaw16_ExprBack.walk (P : quoinlaw16_ExprBack.Pure) (a0_0 : ByteArray) (a0_1 : ByteArray) (a0_2 : Int) (a0_3 : Int) (A1 : Option Addr) (c1 : Nat) (l1 : List (S41)) (w : World) (hr1 : Kd.C k41 w A1 l1.length l1) (hc1 : l1.length ≤ c1) (hT : Lib.TabIs Tryd.prog w "internal/strconv.uint64pow10" .u64 Lib.pow10Tab) (hD : LexW.LexD w) (hE : LexW.LexE w) (hM : ExW.ModsAt w) (w0_0 : a0_0.size ≤ maxLen) (w0_1 : a0_1.size ≤ maxLen) (w0_2 : (Lit.int .i64 a0_2).wf = true) (w0_3 : (Lit.int .u8 a0_3).wf = true) (w1_0 : (l1.length ≤ maxLen ∧ ∀ x0_ ∈ l1, wfS41 x0_)) :
  Calls Tryd.prog 7 #[.agg #[.string a0_0, .string a0_1, .int .i64 a0_2, .int .u8 a0_3], .slice A1 l1.length c1] w fun e w' => e = .returned (.bool true) ∧ Below w.heap.size w w' := by
 obtain ⟨k, h⟩ := P a0_0 a0_1 a0_2 a0_3 l1 w0_0 w0_1 w0_2 w0_3 w1_0
 refine (quoinlaw16_ExprBack.calls k a0_0 a0_1 a0_2 a0_3 A1 c1 l1 true w hr1 hc1 hT hD hE hM h).mono ?_
 rintro e w' ⟨rfl, hd⟩
 exact ⟨rfl, hd⟩

end Go.Proofs.YtgihgmniijhfoaaDoor.P
