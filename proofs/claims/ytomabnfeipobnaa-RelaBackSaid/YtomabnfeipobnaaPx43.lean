-- Written by pext.py, a program of this session, over the kit's print: a function's contract
import Derived.Test.YtomabnfeipobnaaPx0
import Derived.Test.YtomabnfeipobnaaPx3
import Derived.Test.YtomabnfeipobnaaPx10
import Derived.Test.YtomabnfeipobnaaPx13
import Derived.Test.YtomabnfeipobnaaPx16
namespace Go.Proofs.Ytomabnfeipobnaa.P
open Go.RowKit Go.Proofs.YtomabnfeipobnaaW.PrintWords Go.Proofs.YtomabnfeipobnaaW.PrintLast Go.Proofs.YtomabnfeipobnaaW.PrintMore
attribute [local go_sem] max2_int min2_int max_two min_two max_three min_three max_four min_four   -- for this text's walks alone
set_option linter.unusedVariables false
set_option linter.unusedSimpArgs false

attribute [local go_sem high] eqA71
/-! ### quoinlaw11_RelaBack: function 26 -/
def quoinlaw11_RelaBack.j0 : Nat → List Int → Bool → Option (Bool)
 | 0, _, _ => none
 | k + 1, x1, x5 => (rela_Read.f k x1).bind fun bt1041 => (if bt1041.2.2.2.2.2 = 0 then ((rela_Write.f k bt1041.1 bt1041.2.1 bt1041.2.2.1 bt1041.2.2.2.1 bt1041.2.2.2.2.1).bind fun bt1048 => (if x5 = true then (if bt1048.2 = 0 then (some ((strOfNums bt1048.1).toList == (strOfNums x1).toList)) else (none)) else (none))) else (if x5 = true then (some (bt1041.1 == 0 && (bt1041.2.1 == 0 && (bt1041.2.2.1 == 0 && (bt1041.2.2.2.1 == 0 && (bt1041.2.2.2.2.1 == 0)))))) else (none)))
def quoinlaw11_RelaBack.f (k : Nat) (a0_0 : Int) (a0_1 : Int) (a0_2 : Int) (a0_3 : Int) (a0_4 : Int) (l1 : List Int) : Option (Bool) := (quoinlaw11_alive.f k).bind fun t1029 => ((rela_Write.f k a0_0 a0_1 a0_2 a0_3 a0_4).bind fun bt1030 => (if bt1030.2 = 0 then ((rela_Read.f k bt1030.1).bind fun bt1034 => (if bt1034.2.2.2.2.2 = 0 then (if (!(bt1034.2.1 == a0_1) || (!(bt1034.2.2.1 == a0_2) || (!(bt1034.2.2.2.1 == a0_3) || (!(bt1034.2.2.2.2.1 == a0_4))))) = true then (none) else (if (bt1030.1.length : Int) = 24 then (quoinlaw11_RelaBack.j0 k l1 t1029) else (none))) else (none))) else (quoinlaw11_RelaBack.j0 k l1 t1029)))
theorem quoinlaw11_RelaBack.mono_l : ∀ k, (∀ y0 y1, LeO (quoinlaw11_RelaBack.j0 k y0 y1) (quoinlaw11_RelaBack.j0 (k + 1) y0 y1))
 | 0 => fun _ _ r h => by simp [quoinlaw11_RelaBack.j0] at h
 | k + 1 => by
  have ih0 := quoinlaw11_RelaBack.mono_l k
  ·
   intro y0 y1
   unfold quoinlaw11_RelaBack.j0
   repeat' first
   | (with_reducible exact ih0 _ _)
   | (with_reducible exact quoinlaw11_alive.mono _)
   | (with_reducible exact rela_Read.mono _ _)
   | (with_reducible exact rela_Write.mono _ _ _ _ _ _)
   | (with_reducible exact LeO.refl _)
   | (with_reducible exact LeO.none _)
   | (with_reducible refine LeO.ite ?_ ?_)
   | (with_reducible refine LeO.bind ?_ (fun _ => ?_))
   | exact ih0 _ _
   | exact quoinlaw11_alive.mono _
   | exact rela_Read.mono _ _
   | exact rela_Write.mono _ _ _ _ _ _
   | exact LeO.none _
   | refine LeO.ite ?_ ?_
   | refine LeO.bind ?_ (fun _ => ?_)
theorem quoinlaw11_RelaBack.mono : ∀ a0 a1 a2 a3 a4 a5 k, LeO (quoinlaw11_RelaBack.f k a0 a1 a2 a3 a4 a5) (quoinlaw11_RelaBack.f (k + 1) a0 a1 a2 a3 a4 a5) := by
 intro a0 a1 a2 a3 a4 a5 k
 have ih0 := quoinlaw11_RelaBack.mono_l k
 unfold quoinlaw11_RelaBack.f
 repeat' first
   | (with_reducible exact ih0 _ _)
   | (with_reducible exact quoinlaw11_alive.mono _)
   | (with_reducible exact rela_Read.mono _ _)
   | (with_reducible exact rela_Write.mono _ _ _ _ _ _)
   | (with_reducible exact LeO.refl _)
   | (with_reducible exact LeO.none _)
   | (with_reducible refine LeO.ite ?_ ?_)
   | (with_reducible refine LeO.bind ?_ (fun _ => ?_))
   | exact ih0 _ _
   | exact quoinlaw11_alive.mono _
   | exact rela_Read.mono _ _
   | exact rela_Write.mono _ _ _ _ _ _
   | exact LeO.none _
   | refine LeO.ite ?_ ?_
   | refine LeO.bind ?_ (fun _ => ?_)
set_option maxHeartbeats 8000000 in
set_option maxRecDepth 100000 in
theorem quoinlaw11_RelaBack.calls (k : Nat) (a0_0 : Int) (a0_1 : Int) (a0_2 : Int) (a0_3 : Int) (a0_4 : Int) (A1 : Option Addr) (c1 : Nat) (l1 : List Int) (r : Bool) (w : World) (hr1 : Kd.C (Kd.int .u8) w A1 l1.length l1) (hc1 : l1.length ≤ c1) (h : quoinlaw11_RelaBack.f k a0_0 a0_1 a0_2 a0_3 a0_4 l1 = some r) :
  Calls Try.prog 26 #[.agg #[.int .i64 a0_0, .int .i64 a0_1, .int .u8 a0_2, .int .i64 a0_3, .int .i64 a0_4], .slice A1 l1.length c1] w fun e w' => e = .returned (.bool r) ∧ Below w.heap.size w w' := by
 have hu71 := Try.underlying71
 have HR1 := Aside0.mk hr1
 have HC1 := Aside0.mk hc1
 clear hr1 hc1
 have HB := Aside0.mk (Below.refl w.heap.size w)
 have H : ((quoinlaw11_alive.f k).bind fun t1029 => ((rela_Write.f k a0_0 a0_1 a0_2 a0_3 a0_4).bind fun bt1030 => (if bt1030.2 = 0 then ((rela_Read.f k bt1030.1).bind fun bt1034 => (if bt1034.2.2.2.2.2 = 0 then (if (!(bt1034.2.1 == a0_1) || (!(bt1034.2.2.1 == a0_2) || (!(bt1034.2.2.2.1 == a0_3) || (!(bt1034.2.2.2.2.1 == a0_4))))) = true then (none) else (if (bt1030.1.length : Int) = 24 then (quoinlaw11_RelaBack.j0 k l1 t1029) else (none))) else (none))) else (quoinlaw11_RelaBack.j0 k l1 t1029)))) = some r := h
 clear h
 replace H := Option.bind_eq_some_iff.mp H
 obtain ⟨t1029, A30, H⟩ := H
 replace H : ((rela_Write.f k a0_0 a0_1 a0_2 a0_3 a0_4).bind fun bt1030 => (if bt1030.2 = 0 then ((rela_Read.f k bt1030.1).bind fun bt1034 => (if bt1034.2.2.2.2.2 = 0 then (if (!(bt1034.2.1 == a0_1) || (!(bt1034.2.2.1 == a0_2) || (!(bt1034.2.2.2.1 == a0_3) || (!(bt1034.2.2.2.2.1 == a0_4))))) = true then (none) else (if (bt1030.1.length : Int) = 24 then (quoinlaw11_RelaBack.j0 k l1 t1029) else (none))) else (none))) else (quoinlaw11_RelaBack.j0 k l1 t1029))) = some r := H
 have A3 := Aside0.mk A30
 clear A30
 replace H := Option.bind_eq_some_iff.mp H
 obtain ⟨⟨t1030, t1033⟩, A40, H⟩ := H
 replace H : (if t1033 = 0 then ((rela_Read.f k t1030).bind fun bt1034 => (if bt1034.2.2.2.2.2 = 0 then (if (!(bt1034.2.1 == a0_1) || (!(bt1034.2.2.1 == a0_2) || (!(bt1034.2.2.2.1 == a0_3) || (!(bt1034.2.2.2.2.1 == a0_4))))) = true then (none) else (if (t1030.length : Int) = 24 then (quoinlaw11_RelaBack.j0 k l1 t1029) else (none))) else (none))) else (quoinlaw11_RelaBack.j0 k l1 t1029)) = some r := H
 have A4 := Aside0.mk A40
 clear A40
 have HC5 := Aside0.mk H
 clear H
 go_enter Try.func26, Try.ntmps26
 go_upto_if 21 with (first | ((with_reducible refine gate_dst (N := 2) rfl ?_); (try (refine gate_guard (by rfl) ?_; dsimp only)); refine box_event ?hg (N := 2) ?hd (cs := #[.int .i64 a0_0, .int .i64 a0_1, .int .u8 a0_2, .int .i64 a0_3, .int .i64 a0_4]) (t := 71) ?hr ?_; (case hd => rfl); (case hg => rfl); (case hr => first | (go_simp; done) | (go_simp; rfl)); intro gb1028 hg w6 hbox hb; have n0_ := Aside0.mk (below_step (by repeat (first | (with_reducible first | exact HB.out | apply below_alloc | apply pw_below_drewN | apply below_drew1) | exact HB.out)) hb); have n1_ := Aside0.mk (hbox); have n2_ := Aside0.mk ((by rw [hg]; exact (below_size (by repeat (first | (with_reducible first | exact HB.out | apply below_alloc | apply pw_below_drewN | apply below_drew1) | exact HB.out))) : w.heap.size ≤ gb1028)); have n3_ := Aside0.mk ((by rw [hg]; exact (below_size (by repeat (first | (with_reducible first | exact HB.out | apply below_alloc | apply pw_below_drewN | apply below_drew1) | exact HB.out))) : w.heap.size ≤ gb1028)); clear HB; have HB := n0_; have BK1028 := n1_; have GW1028 := n2_; have GE1028 := n3_; clear n0_ n1_ n2_ n3_; clear hb hbox hg) | ((with_reducible refine gate_callee (f := 52) rfl ?_); refine goesL_ (some 14) rfl rfl Try.func52 (by kernel_rfl) rfl #[] rfl (by (try simp only [List.map_toArray, List.map_cons, List.map_nil]); first | done | rfl | (simp only [List.length_drop, List.length_take]; rfl)) ?_; (with_reducible refine (quoinlaw11_alive.calls k  t1029 _ A3.out).mono ?_); rintro e w7 ⟨rfl, hb⟩; refine ⟨_, rfl, ?_⟩; have n0_ := Aside0.mk (blk_below (g := gb1028) (o := .cells #[.int .i64 a0_0, .int .i64 a0_1, .int .u8 a0_2, .int .i64 a0_3, .int .i64 a0_4] 71 (0, 0)) (by (with_reducible repeat (first | refine blk_drewN ?_ _ | refine blk_drew ?_ | refine blk_alloc ?_ _)); exact BK1028.out) hb); have n1_ := Aside0.mk (below_step (by repeat (first | (with_reducible first | exact HB.out | apply below_alloc | apply pw_below_drewN | apply below_drew1 | refine below_set ?_ GE1028.out) | exact HB.out)) hb); clear BK1028; clear HB; have BK1028 := n0_; have HB := n1_; clear n0_ n1_; (try clear hb); (try clear hb2); (try clear hk); (try clear hi); have hcz8_0 : w7.cell? ⟨gb1028, 0, none⟩ = some (.int .i64 a0_0) := (blk_cell BK1028.out 0).trans rfl; have hcz8_1 : w7.cell? ⟨gb1028, 1, none⟩ = some (.int .i64 a0_1) := (blk_cell BK1028.out 1).trans rfl; have hcz8_2 : w7.cell? ⟨gb1028, 2, none⟩ = some (.int .u8 a0_2) := (blk_cell BK1028.out 2).trans rfl; have hcz8_3 : w7.cell? ⟨gb1028, 3, none⟩ = some (.int .i64 a0_3) := (blk_cell BK1028.out 3).trans rfl; have hcz8_4 : w7.cell? ⟨gb1028, 4, none⟩ = some (.int .i64 a0_4) := (blk_cell BK1028.out 4).trans rfl; have hfz8_0 := blk_frozen BK1028.out 0; have hfz8_1 := blk_frozen BK1028.out 1; have hfz8_2 := blk_frozen BK1028.out 2; have hfz8_3 := blk_frozen BK1028.out 3; have hfz8_4 := blk_frozen BK1028.out 4) | ((with_reducible refine gate_callee (f := 56) rfl ?_); refine goesL_ (some 17) rfl rfl Try.func56 (by kernel_rfl) rfl #[.agg #[.int .i64 a0_0, .int .i64 a0_1, .int .u8 a0_2, .int .i64 a0_3, .int .i64 a0_4]] rfl (by (try simp only [List.map_toArray, List.map_cons, List.map_nil]); first | done | rfl | (simp only [List.length_drop, List.length_take]; rfl)) ?_; (with_reducible refine (rela_Write.calls k a0_0 a0_1 a0_2 a0_3 a0_4 t1030 t1033 _ A4.out).mono ?_); rintro e w9 ⟨v1031, rfl, ho0, hb⟩; refine ⟨_, rfl, ?_⟩; have n0_ := Aside0.mk (Kd.R_lower ho0 (below_size (by repeat (first | (with_reducible first | exact HB.out | apply below_alloc | apply pw_below_drewN | apply below_drew1 | refine below_set ?_ GE1028.out) | exact HB.out)))); have n1_ := Aside0.mk (blk_below (g := gb1028) (o := .cells #[.int .i64 a0_0, .int .i64 a0_1, .int .u8 a0_2, .int .i64 a0_3, .int .i64 a0_4] 71 (0, 0)) (by (with_reducible repeat (first | refine blk_drewN ?_ _ | refine blk_drew ?_ | refine blk_alloc ?_ _)); exact BK1028.out) hb); have n2_ := Aside0.mk (below_step (by repeat (first | (with_reducible first | exact HB.out | apply below_alloc | apply pw_below_drewN | apply below_drew1 | refine below_set ?_ GE1028.out) | exact HB.out)) hb); clear BK1028; clear HB; have HO1032 := n0_; have BK1028 := n1_; have HB := n2_; clear n0_ n1_ n2_; (try clear hb); (try clear hb2); (try clear hk); (try clear hi); (try clear ho0)))
 (try simp only [Act.put, List.setIfInBounds_toArray, List.set_cons_zero, List.set_cons_succ])
 go_cut [] (fun wc => ∃ (kq : Nat), Aside0 (quoinlaw11_RelaBack.j0 kq l1 t1029 = some r) ∧ Aside0 (kq ≤ k) ∧ Aside0 (wc.heap[gb1028]? = some (.cells #[.int .i64 a0_0, .int .i64 a0_1, .int .u8 a0_2, .int .i64 a0_3, .int .i64 a0_4] 71 (0, 0))) ∧ Aside0 (Below w.heap.size w wc))
 case first =>
  have H := HC5.out
  clear HC5
  by_cases c10 : t1033 = 0
  ·
   rw [if_pos c10] at H
   have c10b0 : (t1033 == 0) = true := beq_iff_eq.mpr c10
   have c10b1 : (t1033 != 0) = false := bne_eq_false_iff_eq.mpr c10
   clear c10
   (first | rw [c10b0] | (simp only [i64_w, i32_w]; rw [c10b0]) | skip)
   replace H := Option.bind_eq_some_iff.mp H
   obtain ⟨⟨t1034, t1035, t1036, t1037, t1038, t1039⟩, A110, H⟩ := H
   replace H : (if t1039 = 0 then (if (!(t1035 == a0_1) || (!(t1036 == a0_2) || (!(t1037 == a0_3) || (!(t1038 == a0_4))))) = true then (none) else (if (t1030.length : Int) = 24 then (quoinlaw11_RelaBack.j0 k l1 t1029) else (none))) else (none)) = some r := H
   have A11 := Aside0.mk A110
   clear A110
   by_cases c12 : t1039 = 0
   ·
    rw [if_pos c12] at H
    have c12b0 : (t1039 == 0) = true := beq_iff_eq.mpr c12
    have c12b1 : (t1039 != 0) = false := bne_eq_false_iff_eq.mpr c12
    clear c12
    by_cases c13 : (!(t1035 == a0_1) || (!(t1036 == a0_2) || (!(t1037 == a0_3) || (!(t1038 == a0_4))))) = true
    ·
     rw [if_pos c13] at H
     exact absurd H (by simp)
    ·
     rw [if_neg c13] at H
     have c13b0 : (!(t1035 == a0_1) || (!(t1036 == a0_2) || (!(t1037 == a0_3) || (!(t1038 == a0_4))))) = false := by simpa using c13
     clear c13
     by_cases c14 : (t1030.length : Int) = 24
     ·
      rw [if_pos c14] at H
      have c14b0 : ((t1030.length : Int) == 24) = true := beq_iff_eq.mpr c14
      have c14b1 : ((t1030.length : Int) != 24) = false := bne_eq_false_iff_eq.mpr c14
      clear c14
      have H' := Aside0.mk H
      clear H
      obtain ⟨Ao15, co15, eo15⟩ := Kd.R_slice HO1032.out
      subst eo15
      go_wp2_with (first | ((with_reducible refine gate_callee (f := 62) rfl ?_); refine goesL_ (some 24) rfl rfl Try.func62 (by kernel_rfl) rfl #[.slice Ao15 t1030.length co15] rfl (by (try simp only [List.map_toArray, List.map_cons, List.map_nil]); first | done | rfl | (simp only [List.length_drop, List.length_take]; rfl)) ?_; (with_reducible refine (rela_Read.calls k _ _ t1030 t1034 t1035 t1036 t1037 t1038 t1039 _ ?side1 ?side2 A11.out).mono ?_); (case side1 => repeat (first | exact (Kd.R_reads' HO1032.out).2.2 | (with_reducible refine Kd.C_alloc ?_ _) | (with_reducible refine Kd.C_drewN ?_ _) | (with_reducible refine Kd.C_drew ?_))); (case side2 => exact (Kd.R_reads' HO1032.out).2.1); rintro e w16 ⟨rfl, hb⟩; refine ⟨_, rfl, ?_⟩; have n0_ := Aside0.mk (Kd.R_below (by (with_reducible repeat (first | apply Kd.R_alloc | apply Kd.R_drewN | apply Kd.R_drew)); exact HO1032.out) hb); have n1_ := Aside0.mk (blk_below (g := gb1028) (o := .cells #[.int .i64 a0_0, .int .i64 a0_1, .int .u8 a0_2, .int .i64 a0_3, .int .i64 a0_4] 71 (0, 0)) (by (with_reducible repeat (first | refine blk_drewN ?_ _ | refine blk_drew ?_ | refine blk_alloc ?_ _)); exact BK1028.out) hb); have n2_ := Aside0.mk (below_step (by repeat (first | (with_reducible first | exact HB.out | apply below_alloc | apply pw_below_drewN | apply below_drew1 | refine below_set ?_ GE1028.out) | exact HB.out)) hb); clear HO1032; clear BK1028; clear HB; have HO1032 := n0_; have BK1028 := n1_; have HB := n2_; clear n0_ n1_ n2_; (try clear hb); (try clear hb2); (try clear hk); (try clear hi)) | ((with_reducible refine gate_dst (N := 8) rfl ?_); (try (refine gate_guard (by rfl) ?_; dsimp only)); refine box_event ?hg (N := 8) ?hd (cs := #[.int .i64 0, .int .i64 0, .int .u8 0, .int .i64 0, .int .i64 0]) (t := 71) ?hr ?_; (case hd => rfl); (case hg => rfl); (case hr => first | (go_simp; done) | (go_simp; rfl)); intro gb1040 hg w17 hbox hb; have n0_ := Aside0.mk (Kd.R_below (by (with_reducible repeat (first | apply Kd.R_alloc | apply Kd.R_drewN | apply Kd.R_drew)); exact HO1032.out) hb); have n1_ := Aside0.mk (blk_below (g := gb1028) (o := .cells #[.int .i64 a0_0, .int .i64 a0_1, .int .u8 a0_2, .int .i64 a0_3, .int .i64 a0_4] 71 (0, 0)) (by (with_reducible repeat (first | refine blk_drewN ?_ _ | refine blk_drew ?_ | refine blk_alloc ?_ _)); exact BK1028.out) hb); have n2_ := Aside0.mk (below_step (by repeat (first | (with_reducible first | exact HB.out | apply below_alloc | apply pw_below_drewN | apply below_drew1 | refine below_set ?_ GE1028.out) | exact HB.out)) hb); have n3_ := Aside0.mk (hbox); have n4_ := Aside0.mk ((by rw [hg]; exact (below_size (by repeat (first | (with_reducible first | exact HB.out | apply below_alloc | apply pw_below_drewN | apply below_drew1 | refine below_set ?_ GE1028.out) | exact HB.out))) : w.heap.size ≤ gb1040)); have n5_ := Aside0.mk ((by rw [hg]; exact (below_size (by repeat (first | (with_reducible first | exact HB.out | apply below_alloc | apply pw_below_drewN | apply below_drew1 | refine below_set ?_ GE1028.out) | exact HB.out))) : w.heap.size ≤ gb1040)); have n6_ := Aside0.mk ((by rw [hg]; exact Nat.ne_of_lt (blk_lt (g := gb1028) (o := .cells #[.int .i64 a0_0, .int .i64 a0_1, .int .u8 a0_2, .int .i64 a0_3, .int .i64 a0_4] 71 (0, 0)) (by (with_reducible repeat (first | refine blk_drewN ?_ _ | refine blk_drew ?_ | refine blk_alloc ?_ _)); exact BK1028.out)) : gb1028 ≠ gb1040)); have n7_ := Aside0.mk ((by rw [hg]; exact Nat.ne_of_gt (blk_lt (g := gb1028) (o := .cells #[.int .i64 a0_0, .int .i64 a0_1, .int .u8 a0_2, .int .i64 a0_3, .int .i64 a0_4] 71 (0, 0)) (by (with_reducible repeat (first | refine blk_drewN ?_ _ | refine blk_drew ?_ | refine blk_alloc ?_ _)); exact BK1028.out)) : gb1040 ≠ gb1028)); clear HO1032; clear BK1028; clear HB; have HO1032 := n0_; have BK1028 := n1_; have HB := n2_; have BK1040 := n3_; have GW1040 := n4_; have GE1040 := n5_; have NB1028_1040 := n6_; have NB1040_1028 := n7_; clear n0_ n1_ n2_ n3_ n4_ n5_ n6_ n7_; clear hb hbox hg; have hnb18 := NB1040_1028.out; have hnc18 := NB1028_1040.out; have hcz19_0 : w17.cell? ⟨gb1040, 0, none⟩ = some (.int .i64 0) := (blk_cell BK1040.out 0).trans rfl; have hcz19_1 : w17.cell? ⟨gb1040, 1, none⟩ = some (.int .i64 0) := (blk_cell BK1040.out 1).trans rfl; have hcz19_2 : w17.cell? ⟨gb1040, 2, none⟩ = some (.int .u8 0) := (blk_cell BK1040.out 2).trans rfl; have hcz19_3 : w17.cell? ⟨gb1040, 3, none⟩ = some (.int .i64 0) := (blk_cell BK1040.out 3).trans rfl; have hcz19_4 : w17.cell? ⟨gb1040, 4, none⟩ = some (.int .i64 0) := (blk_cell BK1040.out 4).trans rfl; have hfz19_0 := blk_frozen BK1040.out 0; have hfz19_1 := blk_frozen BK1040.out 1; have hfz19_2 := blk_frozen BK1040.out 2; have hfz19_3 := blk_frozen BK1040.out 3; have hfz19_4 := blk_frozen BK1040.out 4; have hcz20_0 : w17.cell? ⟨gb1028, 0, none⟩ = some (.int .i64 a0_0) := (blk_cell BK1028.out 0).trans rfl; have hcz20_1 : w17.cell? ⟨gb1028, 1, none⟩ = some (.int .i64 a0_1) := (blk_cell BK1028.out 1).trans rfl; have hcz20_2 : w17.cell? ⟨gb1028, 2, none⟩ = some (.int .u8 a0_2) := (blk_cell BK1028.out 2).trans rfl; have hcz20_3 : w17.cell? ⟨gb1028, 3, none⟩ = some (.int .i64 a0_3) := (blk_cell BK1028.out 3).trans rfl; have hcz20_4 : w17.cell? ⟨gb1028, 4, none⟩ = some (.int .i64 a0_4) := (blk_cell BK1028.out 4).trans rfl; have hfz20_0 := blk_frozen BK1028.out 0; have hfz20_1 := blk_frozen BK1028.out 1; have hfz20_2 := blk_frozen BK1028.out 2; have hfz20_3 := blk_frozen BK1028.out 3; have hfz20_4 := blk_frozen BK1028.out 4))
      go_meet
      case rel => exact ⟨_, H', ⟨by first | omega | exact Nat.le_refl _⟩, ⟨by (with_reducible repeat (first | refine blk_drewN ?_ _ | refine blk_drew ?_ | refine blk_alloc ?_ _)); refine blk_far ?_ NB1028_1040.out _; (with_reducible repeat (first | refine blk_drewN ?_ _ | refine blk_drew ?_ | refine blk_alloc ?_ _)); refine blk_far ?_ NB1028_1040.out _; (with_reducible repeat (first | refine blk_drewN ?_ _ | refine blk_drew ?_ | refine blk_alloc ?_ _)); refine blk_far ?_ NB1028_1040.out _; (with_reducible repeat (first | refine blk_drewN ?_ _ | refine blk_drew ?_ | refine blk_alloc ?_ _)); refine blk_far ?_ NB1028_1040.out _; (with_reducible repeat (first | refine blk_drewN ?_ _ | refine blk_drew ?_ | refine blk_alloc ?_ _)); refine blk_far ?_ NB1028_1040.out _; (with_reducible repeat (first | refine blk_drewN ?_ _ | refine blk_drew ?_ | refine blk_alloc ?_ _)); refine blk_far ?_ NB1028_1040.out _; (with_reducible repeat (first | refine blk_drewN ?_ _ | refine blk_drew ?_ | refine blk_alloc ?_ _)); exact BK1028.out⟩, ⟨by repeat (first | (with_reducible first | exact HB.out | apply below_alloc | apply pw_below_drewN | apply below_drew1 | refine below_set ?_ GE1028.out | refine below_set ?_ GE1040.out) | exact HB.out)⟩⟩
     ·
      rw [if_neg c14] at H
      exact absurd H (by simp)
   ·
    rw [if_neg c12] at H
    exact absurd H (by simp)
  ·
   rw [if_neg c10] at H
   have c10b0 : (t1033 == 0) = false := beq_eq_false_iff_ne.mpr c10
   have c10b1 : (t1033 != 0) = true := bne_iff_ne.mpr c10
   (first | rw [c10b0] | (simp only [i64_w, i32_w]; rw [c10b0]) | skip)
   have H' := Aside0.mk H
   clear H
   go_wp2
   go_meet
   case rel => exact ⟨_, H', ⟨by first | omega | exact Nat.le_refl _⟩, ⟨by (with_reducible repeat (first | refine blk_drewN ?_ _ | refine blk_drew ?_ | refine blk_alloc ?_ _)); exact BK1028.out⟩, ⟨by repeat (first | (with_reducible first | exact HB.out | apply below_alloc | apply pw_below_drewN | apply below_drew1 | refine below_set ?_ GE1028.out) | exact HB.out)⟩⟩
 case rest =>
  clear HC5
  try clear c1
  try clear c2
  try clear p2
  try clear c5
  try clear c6
  try clear c10
  try clear c10b0
  try clear c10b1
  try clear c12
  try clear c12b0
  try clear c12b1
  try clear c13
  try clear c13b0
  try clear c14
  try clear c14b0
  try clear c14b1
  try clear c18
  try clear hcz19_0
  try clear hcz19_1
  try clear hcz19_2
  try clear hcz19_3
  try clear hcz19_4
  try clear hcz20_0
  try clear hcz20_1
  try clear hcz20_2
  try clear hcz20_3
  try clear hcz20_4
  try clear hcz8_0
  try clear hcz8_1
  try clear hcz8_2
  try clear hcz8_3
  try clear hcz8_4
  try clear hfz19_0
  try clear hfz19_1
  try clear hfz19_2
  try clear hfz19_3
  try clear hfz19_4
  try clear hfz20_0
  try clear hfz20_1
  try clear hfz20_2
  try clear hfz20_3
  try clear hfz20_4
  try clear hfz8_0
  try clear hfz8_1
  try clear hfz8_2
  try clear hfz8_3
  try clear hfz8_4
  obtain ⟨kq, HA, HJ4, BK1028, HB⟩ := hcut
  cases kq with
  | zero => exact absurd HA.out (by simp [quoinlaw11_RelaBack.j0])
  | succ kj4 =>
   have H := HA.out
   clear HA
   simp only [quoinlaw11_RelaBack.j0] at H
   replace H := Option.bind_eq_some_iff.mp H
   obtain ⟨⟨t1041, t1042, t1043, t1044, t1045, t1046⟩, A210, H⟩ := H
   replace H : (if t1046 = 0 then ((rela_Write.f kj4 t1041 t1042 t1043 t1044 t1045).bind fun bt1048 => (if t1029 = true then (if bt1048.2 = 0 then (some ((strOfNums bt1048.1).toList == (strOfNums l1).toList)) else (none)) else (none))) else (if t1029 = true then (some (t1041 == 0 && (t1042 == 0 && (t1043 == 0 && (t1044 == 0 && (t1045 == 0)))))) else (none))) = some r := H
   have A21 := Aside0.mk A210
   clear A210
   by_cases c22 : t1046 = 0
   ·
    rw [if_pos c22] at H
    have c22b0 : (t1046 == 0) = true := beq_iff_eq.mpr c22
    have c22b1 : (t1046 != 0) = false := bne_eq_false_iff_eq.mpr c22
    clear c22
    replace H := Option.bind_eq_some_iff.mp H
    obtain ⟨⟨t1048, t1051⟩, A230, H⟩ := H
    replace H : (if t1029 = true then (if t1051 = 0 then (some ((strOfNums t1048).toList == (strOfNums l1).toList)) else (none)) else (none)) = some r := H
    have A23 := Aside0.mk A230
    clear A230
    by_cases c24 : t1029 = true
    ·
     subst c24
     have H1 : (if t1051 = 0 then (some ((strOfNums t1048).toList == (strOfNums l1).toList)) else (none)) = some r := by rw [if_pos rfl] at H; exact H
     clear H
     have H := H1
     clear H1
     by_cases c25 : t1051 = 0
     ·
      rw [if_pos c25] at H
      have c25b0 : (t1051 == 0) = true := beq_iff_eq.mpr c25
      have c25b1 : (t1051 != 0) = false := bne_eq_false_iff_eq.mpr c25
      clear c25
      obtain rfl := Option.some.inj H
      go_wp2_with (first | ((with_reducible refine gate_callee (f := 62) rfl ?_); refine goesL_ (some 44) rfl rfl Try.func62 (by kernel_rfl) rfl #[.slice A1 l1.length c1] rfl (by (try simp only [List.map_toArray, List.map_cons, List.map_nil]); first | done | rfl | (simp only [List.length_drop, List.length_take]; rfl)) ?_; (with_reducible refine (rela_Read.calls kj4 _ _ l1 t1041 t1042 t1043 t1044 t1045 t1046 _ ?side1 ?side2 A21.out).mono ?_); (case side1 => repeat (first | exact (Kd.C_below HR1.out HB.out) | (with_reducible refine Kd.C_alloc ?_ _) | (with_reducible refine Kd.C_drewN ?_ _) | (with_reducible refine Kd.C_drew ?_))); (case side2 => exact HC1.out); rintro e w26 ⟨rfl, hb⟩; refine ⟨_, rfl, ?_⟩; have n0_ := Aside0.mk (blk_below (g := gb1028) (o := .cells #[.int .i64 a0_0, .int .i64 a0_1, .int .u8 a0_2, .int .i64 a0_3, .int .i64 a0_4] 71 (0, 0)) (by (with_reducible repeat (first | refine blk_drewN ?_ _ | refine blk_drew ?_ | refine blk_alloc ?_ _)); exact BK1028.out) hb); have n1_ := Aside0.mk (below_step (by repeat (first | (with_reducible first | exact HB.out | apply below_alloc | apply pw_below_drewN | apply below_drew1 | refine below_set ?_ GE1028.out) | exact HB.out)) hb); clear BK1028; clear HB; have BK1028 := n0_; have HB := n1_; clear n0_ n1_; (try clear hb); (try clear hb2); (try clear hk); (try clear hi)) | ((with_reducible refine gate_dst (N := 10) rfl ?_); (try (refine gate_guard (by rfl) ?_; dsimp only)); refine box_event ?hg (N := 10) ?hd (cs := #[.int .i64 0, .int .i64 0, .int .u8 0, .int .i64 0, .int .i64 0]) (t := 71) ?hr ?_; (case hd => rfl); (case hg => rfl); (case hr => first | (go_simp; done) | (go_simp; rfl)); intro gb1047 hg w27 hbox hb; have n0_ := Aside0.mk (blk_below (g := gb1028) (o := .cells #[.int .i64 a0_0, .int .i64 a0_1, .int .u8 a0_2, .int .i64 a0_3, .int .i64 a0_4] 71 (0, 0)) (by (with_reducible repeat (first | refine blk_drewN ?_ _ | refine blk_drew ?_ | refine blk_alloc ?_ _)); exact BK1028.out) hb); have n1_ := Aside0.mk (below_step (by repeat (first | (with_reducible first | exact HB.out | apply below_alloc | apply pw_below_drewN | apply below_drew1 | refine below_set ?_ GE1028.out) | exact HB.out)) hb); have n2_ := Aside0.mk (hbox); have n3_ := Aside0.mk ((by rw [hg]; exact (below_size (by repeat (first | (with_reducible first | exact HB.out | apply below_alloc | apply pw_below_drewN | apply below_drew1 | refine below_set ?_ GE1028.out) | exact HB.out))) : w.heap.size ≤ gb1047)); have n4_ := Aside0.mk ((by rw [hg]; exact (below_size (by repeat (first | (with_reducible first | exact HB.out | apply below_alloc | apply pw_below_drewN | apply below_drew1 | refine below_set ?_ GE1028.out) | exact HB.out))) : w.heap.size ≤ gb1047)); have n5_ := Aside0.mk ((by rw [hg]; exact Nat.ne_of_lt (blk_lt (g := gb1028) (o := .cells #[.int .i64 a0_0, .int .i64 a0_1, .int .u8 a0_2, .int .i64 a0_3, .int .i64 a0_4] 71 (0, 0)) (by (with_reducible repeat (first | refine blk_drewN ?_ _ | refine blk_drew ?_ | refine blk_alloc ?_ _)); exact BK1028.out)) : gb1028 ≠ gb1047)); have n6_ := Aside0.mk ((by rw [hg]; exact Nat.ne_of_gt (blk_lt (g := gb1028) (o := .cells #[.int .i64 a0_0, .int .i64 a0_1, .int .u8 a0_2, .int .i64 a0_3, .int .i64 a0_4] 71 (0, 0)) (by (with_reducible repeat (first | refine blk_drewN ?_ _ | refine blk_drew ?_ | refine blk_alloc ?_ _)); exact BK1028.out)) : gb1047 ≠ gb1028)); clear BK1028; clear HB; have BK1028 := n0_; have HB := n1_; have BK1047 := n2_; have GW1047 := n3_; have GE1047 := n4_; have NB1028_1047 := n5_; have NB1047_1028 := n6_; clear n0_ n1_ n2_ n3_ n4_ n5_ n6_; clear hb hbox hg; have hnb28 := NB1047_1028.out; have hnc28 := NB1028_1047.out; have hcz29_0 : w27.cell? ⟨gb1047, 0, none⟩ = some (.int .i64 0) := (blk_cell BK1047.out 0).trans rfl; have hcz29_1 : w27.cell? ⟨gb1047, 1, none⟩ = some (.int .i64 0) := (blk_cell BK1047.out 1).trans rfl; have hcz29_2 : w27.cell? ⟨gb1047, 2, none⟩ = some (.int .u8 0) := (blk_cell BK1047.out 2).trans rfl; have hcz29_3 : w27.cell? ⟨gb1047, 3, none⟩ = some (.int .i64 0) := (blk_cell BK1047.out 3).trans rfl; have hcz29_4 : w27.cell? ⟨gb1047, 4, none⟩ = some (.int .i64 0) := (blk_cell BK1047.out 4).trans rfl; have hfz29_0 := blk_frozen BK1047.out 0; have hfz29_1 := blk_frozen BK1047.out 1; have hfz29_2 := blk_frozen BK1047.out 2; have hfz29_3 := blk_frozen BK1047.out 3; have hfz29_4 := blk_frozen BK1047.out 4) | ((with_reducible refine gate_callee (f := 56) rfl ?_); refine goesL_ (some 57) rfl rfl Try.func56 (by kernel_rfl) rfl #[.agg #[.int .i64 t1041, .int .i64 t1042, .int .u8 t1043, .int .i64 t1044, .int .i64 t1045]] rfl (by (try simp only [List.map_toArray, List.map_cons, List.map_nil]); first | done | rfl | (simp only [List.length_drop, List.length_take]; rfl)) ?_; (with_reducible refine (rela_Write.calls kj4 t1041 t1042 t1043 t1044 t1045 t1048 t1051 _ A23.out).mono ?_); rintro e w30 ⟨v1049, rfl, ho0, hb⟩; refine ⟨_, rfl, ?_⟩; have n0_ := Aside0.mk (Kd.R_lower ho0 (below_size (by repeat (first | (with_reducible first | exact HB.out | apply below_alloc | apply pw_below_drewN | apply below_drew1 | refine below_set ?_ GE1028.out | refine below_set ?_ GE1047.out) | exact HB.out)))); have n1_ := Aside0.mk (blk_below (g := gb1028) (o := .cells #[.int .i64 a0_0, .int .i64 a0_1, .int .u8 a0_2, .int .i64 a0_3, .int .i64 a0_4] 71 (0, 0)) (by (with_reducible repeat (first | refine blk_drewN ?_ _ | refine blk_drew ?_ | refine blk_alloc ?_ _)); refine blk_far ?_ NB1028_1047.out _; (with_reducible repeat (first | refine blk_drewN ?_ _ | refine blk_drew ?_ | refine blk_alloc ?_ _)); refine blk_far ?_ NB1028_1047.out _; (with_reducible repeat (first | refine blk_drewN ?_ _ | refine blk_drew ?_ | refine blk_alloc ?_ _)); refine blk_far ?_ NB1028_1047.out _; (with_reducible repeat (first | refine blk_drewN ?_ _ | refine blk_drew ?_ | refine blk_alloc ?_ _)); refine blk_far ?_ NB1028_1047.out _; (with_reducible repeat (first | refine blk_drewN ?_ _ | refine blk_drew ?_ | refine blk_alloc ?_ _)); refine blk_far ?_ NB1028_1047.out _; (with_reducible repeat (first | refine blk_drewN ?_ _ | refine blk_drew ?_ | refine blk_alloc ?_ _)); exact BK1028.out) hb); have n2_ := Aside0.mk (blk_below (g := gb1047) (o := .cells #[.int .i64 t1041, .int .i64 t1042, .int .u8 t1043, .int .i64 t1044, .int .i64 t1045] 71 (0, 0)) (by (with_reducible repeat (first | refine blk_drewN ?_ _ | refine blk_drew ?_ | refine blk_alloc ?_ _)); refine blk_put (cs := #[.int .i64 t1041, .int .i64 t1042, .int .u8 t1043, .int .i64 t1044, .int .i64 0]) ?_ 4 _ rfl; (with_reducible repeat (first | refine blk_drewN ?_ _ | refine blk_drew ?_ | refine blk_alloc ?_ _)); refine blk_put (cs := #[.int .i64 t1041, .int .i64 t1042, .int .u8 t1043, .int .i64 0, .int .i64 0]) ?_ 3 _ rfl; (with_reducible repeat (first | refine blk_drewN ?_ _ | refine blk_drew ?_ | refine blk_alloc ?_ _)); refine blk_put (cs := #[.int .i64 t1041, .int .i64 t1042, .int .u8 0, .int .i64 0, .int .i64 0]) ?_ 2 _ rfl; (with_reducible repeat (first | refine blk_drewN ?_ _ | refine blk_drew ?_ | refine blk_alloc ?_ _)); refine blk_put (cs := #[.int .i64 t1041, .int .i64 0, .int .u8 0, .int .i64 0, .int .i64 0]) ?_ 1 _ rfl; (with_reducible repeat (first | refine blk_drewN ?_ _ | refine blk_drew ?_ | refine blk_alloc ?_ _)); refine blk_put (cs := #[.int .i64 0, .int .i64 0, .int .u8 0, .int .i64 0, .int .i64 0]) ?_ 0 _ rfl; (with_reducible repeat (first | refine blk_drewN ?_ _ | refine blk_drew ?_ | refine blk_alloc ?_ _)); exact BK1047.out) hb); have n3_ := Aside0.mk (below_step (by repeat (first | (with_reducible first | exact HB.out | apply below_alloc | apply pw_below_drewN | apply below_drew1 | refine below_set ?_ GE1028.out | refine below_set ?_ GE1047.out) | exact HB.out)) hb); clear BK1028; clear BK1047; clear HB; have HO1050 := n0_; have BK1028 := n1_; have BK1047 := n2_; have HB := n3_; clear n0_ n1_ n2_ n3_; (try clear hb); (try clear hb2); (try clear hk); (try clear hi); (try clear ho0); have hcv31 := own_string (P := Try.prog) Try.underlying24 Try.underlying5 Try.underlying9 (Kd.own_of_R HO1050.out); have hcv32 := fun n_ : Nat => own_string (P := Try.prog) Try.underlying24 Try.underlying5 Try.underlying9 (Kd.own_of_R (Kd.R_drewN HO1050.out n_)); have hcv33 := fun (i_ : Nat) (u_ : Value) => own_string (P := Try.prog) Try.underlying24 Try.underlying5 Try.underlying9 (Kd.own_of_R (Kd.R_far (p := ⟨gb1028, i_, none⟩) (Kd.R_types HO1050.out BK1028.out (by decide)) (fun _ hk => hk.2) u_)); have hcv34 := fun (i_ : Nat) (u_ : Value) (n_ : Nat) => own_string (P := Try.prog) Try.underlying24 Try.underlying5 Try.underlying9 (Kd.own_of_R (Kd.R_drewN (Kd.R_far (p := ⟨gb1028, i_, none⟩) (Kd.R_types HO1050.out BK1028.out (by decide)) (fun _ hk => hk.2) u_) n_)); have hcv35 := fun (i_ : Nat) (u_ : Value) => own_string (P := Try.prog) Try.underlying24 Try.underlying5 Try.underlying9 (Kd.own_of_R (Kd.R_far (p := ⟨gb1047, i_, none⟩) (Kd.R_types HO1050.out BK1047.out (by decide)) (fun _ hk => hk.2) u_)); have hcv36 := fun (i_ : Nat) (u_ : Value) (n_ : Nat) => own_string (P := Try.prog) Try.underlying24 Try.underlying5 Try.underlying9 (Kd.own_of_R (Kd.R_drewN (Kd.R_far (p := ⟨gb1047, i_, none⟩) (Kd.R_types HO1050.out BK1047.out (by decide)) (fun _ hk => hk.2) u_) n_)); have hcv37 := Kd.C_string (P := Try.prog) (A := A1) (c := c1) Try.underlying24 Try.underlying5 Try.underlying9 (Kd.C_below HR1.out HB.out); have hcv38 := fun n_ : Nat => Kd.C_string (P := Try.prog) (A := A1) (c := c1) Try.underlying24 Try.underlying5 Try.underlying9 (Kd.C_drewN (Kd.C_below HR1.out HB.out) n_)))
      go_ret
      exact ⟨by first | rfl | (simp [errW_none, errW_some] <;> rfl) | (simp [*, errW_none, errW_some] <;> rfl), by repeat (first | (with_reducible first | exact HB.out | apply below_alloc | apply pw_below_drewN | apply below_drew1 | refine below_set ?_ GE1028.out | refine below_set ?_ GE1047.out) | exact HB.out)⟩
     ·
      rw [if_neg c25] at H
      exact absurd H (by simp)
    ·
     replace c24 := Bool.eq_false_iff.mpr c24
     subst c24
     have H1 : (none) = some r := by rw [if_neg (show ¬ (false = true) by decide)] at H; exact H
     clear H
     have H := H1
     clear H1
     exact absurd H (by simp)
   ·
    rw [if_neg c22] at H
    have c22b0 : (t1046 == 0) = false := beq_eq_false_iff_ne.mpr c22
    have c22b1 : (t1046 != 0) = true := bne_iff_ne.mpr c22
    by_cases c39 : t1029 = true
    ·
     subst c39
     have H1 : (some (t1041 == 0 && (t1042 == 0 && (t1043 == 0 && (t1044 == 0 && (t1045 == 0)))))) = some r := by rw [if_pos rfl] at H; exact H
     clear H
     have H := H1
     clear H1
     obtain rfl := Option.some.inj H
     go_wp2_with (first | ((with_reducible refine gate_callee (f := 62) rfl ?_); refine goesL_ (some 44) rfl rfl Try.func62 (by kernel_rfl) rfl #[.slice A1 l1.length c1] rfl (by (try simp only [List.map_toArray, List.map_cons, List.map_nil]); first | done | rfl | (simp only [List.length_drop, List.length_take]; rfl)) ?_; (with_reducible refine (rela_Read.calls kj4 _ _ l1 t1041 t1042 t1043 t1044 t1045 t1046 _ ?side1 ?side2 A21.out).mono ?_); (case side1 => repeat (first | exact (Kd.C_below HR1.out HB.out) | (with_reducible refine Kd.C_alloc ?_ _) | (with_reducible refine Kd.C_drewN ?_ _) | (with_reducible refine Kd.C_drew ?_))); (case side2 => exact HC1.out); rintro e w40 ⟨rfl, hb⟩; refine ⟨_, rfl, ?_⟩; have n0_ := Aside0.mk (blk_below (g := gb1028) (o := .cells #[.int .i64 a0_0, .int .i64 a0_1, .int .u8 a0_2, .int .i64 a0_3, .int .i64 a0_4] 71 (0, 0)) (by (with_reducible repeat (first | refine blk_drewN ?_ _ | refine blk_drew ?_ | refine blk_alloc ?_ _)); exact BK1028.out) hb); have n1_ := Aside0.mk (below_step (by repeat (first | (with_reducible first | exact HB.out | apply below_alloc | apply pw_below_drewN | apply below_drew1 | refine below_set ?_ GE1028.out) | exact HB.out)) hb); clear BK1028; clear HB; have BK1028 := n0_; have HB := n1_; clear n0_ n1_; (try clear hb); (try clear hb2); (try clear hk); (try clear hi)) | ((with_reducible refine gate_dst (N := 10) rfl ?_); (try (refine gate_guard (by rfl) ?_; dsimp only)); refine box_event ?hg (N := 10) ?hd (cs := #[.int .i64 0, .int .i64 0, .int .u8 0, .int .i64 0, .int .i64 0]) (t := 71) ?hr ?_; (case hd => rfl); (case hg => rfl); (case hr => first | (go_simp; done) | (go_simp; rfl)); intro gb1047 hg w41 hbox hb; have n0_ := Aside0.mk (blk_below (g := gb1028) (o := .cells #[.int .i64 a0_0, .int .i64 a0_1, .int .u8 a0_2, .int .i64 a0_3, .int .i64 a0_4] 71 (0, 0)) (by (with_reducible repeat (first | refine blk_drewN ?_ _ | refine blk_drew ?_ | refine blk_alloc ?_ _)); exact BK1028.out) hb); have n1_ := Aside0.mk (below_step (by repeat (first | (with_reducible first | exact HB.out | apply below_alloc | apply pw_below_drewN | apply below_drew1 | refine below_set ?_ GE1028.out) | exact HB.out)) hb); have n2_ := Aside0.mk (hbox); have n3_ := Aside0.mk ((by rw [hg]; exact (below_size (by repeat (first | (with_reducible first | exact HB.out | apply below_alloc | apply pw_below_drewN | apply below_drew1 | refine below_set ?_ GE1028.out) | exact HB.out))) : w.heap.size ≤ gb1047)); have n4_ := Aside0.mk ((by rw [hg]; exact (below_size (by repeat (first | (with_reducible first | exact HB.out | apply below_alloc | apply pw_below_drewN | apply below_drew1 | refine below_set ?_ GE1028.out) | exact HB.out))) : w.heap.size ≤ gb1047)); have n5_ := Aside0.mk ((by rw [hg]; exact Nat.ne_of_lt (blk_lt (g := gb1028) (o := .cells #[.int .i64 a0_0, .int .i64 a0_1, .int .u8 a0_2, .int .i64 a0_3, .int .i64 a0_4] 71 (0, 0)) (by (with_reducible repeat (first | refine blk_drewN ?_ _ | refine blk_drew ?_ | refine blk_alloc ?_ _)); exact BK1028.out)) : gb1028 ≠ gb1047)); have n6_ := Aside0.mk ((by rw [hg]; exact Nat.ne_of_gt (blk_lt (g := gb1028) (o := .cells #[.int .i64 a0_0, .int .i64 a0_1, .int .u8 a0_2, .int .i64 a0_3, .int .i64 a0_4] 71 (0, 0)) (by (with_reducible repeat (first | refine blk_drewN ?_ _ | refine blk_drew ?_ | refine blk_alloc ?_ _)); exact BK1028.out)) : gb1047 ≠ gb1028)); clear BK1028; clear HB; have BK1028 := n0_; have HB := n1_; have BK1047 := n2_; have GW1047 := n3_; have GE1047 := n4_; have NB1028_1047 := n5_; have NB1047_1028 := n6_; clear n0_ n1_ n2_ n3_ n4_ n5_ n6_; clear hb hbox hg; have hnb42 := NB1047_1028.out; have hnc42 := NB1028_1047.out; have hcz43_0 : w41.cell? ⟨gb1047, 0, none⟩ = some (.int .i64 0) := (blk_cell BK1047.out 0).trans rfl; have hcz43_1 : w41.cell? ⟨gb1047, 1, none⟩ = some (.int .i64 0) := (blk_cell BK1047.out 1).trans rfl; have hcz43_2 : w41.cell? ⟨gb1047, 2, none⟩ = some (.int .u8 0) := (blk_cell BK1047.out 2).trans rfl; have hcz43_3 : w41.cell? ⟨gb1047, 3, none⟩ = some (.int .i64 0) := (blk_cell BK1047.out 3).trans rfl; have hcz43_4 : w41.cell? ⟨gb1047, 4, none⟩ = some (.int .i64 0) := (blk_cell BK1047.out 4).trans rfl; have hfz43_0 := blk_frozen BK1047.out 0; have hfz43_1 := blk_frozen BK1047.out 1; have hfz43_2 := blk_frozen BK1047.out 2; have hfz43_3 := blk_frozen BK1047.out 3; have hfz43_4 := blk_frozen BK1047.out 4))
     go_ret
     exact ⟨by first | rfl | (simp [errW_none, errW_some] <;> rfl) | (simp [*, errW_none, errW_some] <;> rfl), by repeat (first | (with_reducible first | exact HB.out | apply below_alloc | apply pw_below_drewN | apply below_drew1 | refine below_set ?_ GE1028.out | refine below_set ?_ GE1047.out) | exact HB.out)⟩
    ·
     replace c39 := Bool.eq_false_iff.mpr c39
     subst c39
     have H1 : (none) = some r := by rw [if_neg (show ¬ (false = true) by decide)] at H; exact H
     clear H
     have H := H1
     clear H1
     exact absurd H (by simp)

/-- THE ONE PURE STATEMENT of quoinlaw11_RelaBack: yours. -/
def quoinlaw11_RelaBack.Pure : Prop := ∀ (a0_0 : Int) (a0_1 : Int) (a0_2 : Int) (a0_3 : Int) (a0_4 : Int) (l1 : List Int), (Lit.int .i64 a0_0).wf = true → (Lit.int .i64 a0_1).wf = true → (Lit.int .u8 a0_2).wf = true → (Lit.int .i64 a0_3).wf = true → (Lit.int .i64 a0_4).wf = true → (l1.length ≤ maxLen ∧ ∀ x0_ ∈ l1, (Lit.int .u8 x0_).wf = true) → ∃ k, quoinlaw11_RelaBack.f k a0_0 a0_1 a0_2 a0_3 a0_4 l1 = some true
theorem quoinlaw11_RelaBack.walk (P : quoinlaw11_RelaBack.Pure) (a0_0 : Int) (a0_1 : Int) (a0_2 : Int) (a0_3 : Int) (a0_4 : Int) (A1 : Option Addr) (c1 : Nat) (l1 : List Int) (w : World) (hr1 : Kd.C (Kd.int .u8) w A1 l1.length l1) (hc1 : l1.length ≤ c1) (w0_0 : (Lit.int .i64 a0_0).wf = true) (w0_1 : (Lit.int .i64 a0_1).wf = true) (w0_2 : (Lit.int .u8 a0_2).wf = true) (w0_3 : (Lit.int .i64 a0_3).wf = true) (w0_4 : (Lit.int .i64 a0_4).wf = true) (w1_0 : (l1.length ≤ maxLen ∧ ∀ x0_ ∈ l1, (Lit.int .u8 x0_).wf = true)) :
  Calls Try.prog 26 #[.agg #[.int .i64 a0_0, .int .i64 a0_1, .int .u8 a0_2, .int .i64 a0_3, .int .i64 a0_4], .slice A1 l1.length c1] w fun e w' => e = .returned (.bool true) ∧ Below w.heap.size w w' := by
 obtain ⟨k, h⟩ := P a0_0 a0_1 a0_2 a0_3 a0_4 l1 w0_0 w0_1 w0_2 w0_3 w0_4 w1_0
 refine (quoinlaw11_RelaBack.calls k a0_0 a0_1 a0_2 a0_3 a0_4 A1 c1 l1 true w hr1 hc1 h).mono ?_
 rintro e w' ⟨rfl, hd⟩
 exact ⟨rfl, hd⟩

end Go.Proofs.Ytomabnfeipobnaa.P
