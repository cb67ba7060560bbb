-- Written by pext.py, a program of this session, over the kit's print: a function's contract
import Derived.Test.YtomabnfeipobnaaPx0
import Derived.Test.YtomabnfeipobnaaPx2
import Derived.Test.YtomabnfeipobnaaPx8
import Derived.Test.YtomabnfeipobnaaPx11
import Derived.Test.YtomabnfeipobnaaPx15
namespace Go.Proofs.Ytomabnfeipobnaa.P
open Go.RowKit Go.Proofs.YtomabnfeipobnaaW.PrintWords Go.Proofs.YtomabnfeipobnaaW.PrintLast Go.Proofs.YtomabnfeipobnaaW.PrintMore
attribute [local go_sem] max2_int min2_int max_two min_two max_three min_three max_four min_four   -- for this text's walks alone
set_option linter.unusedVariables false
set_option linter.unusedSimpArgs false

attribute [local go_sem high] eqA64
/-! ### quoinlaw10_SymBack: function 23 -/
def quoinlaw10_SymBack.j0 : Nat → List Int → Bool → Option (Bool)
 | 0, _, _ => none
 | k + 1, x2, x7 => (sym_Read.f k x2).bind fun bt889 => (if bt889.2.2.2.2.2.2.2 = 0 then ((sym_Write.f k (⟨#[97, 110, 121]⟩ : ByteArray) bt889.2.1 bt889.2.2.1 bt889.2.2.2.1 bt889.2.2.2.2.1 bt889.2.2.2.2.2.1 bt889.2.2.2.2.2.2.1).bind fun bt898 => (if x7 = true then (if bt898.2 = 0 then (some ((strOfNums bt898.1).toList == (strOfNums x2).toList)) else (none)) else (none))) else (if x7 = true then (if (bt889.1.toList == ([] : List UInt8) && (bt889.2.1 == 0 && (!bt889.2.2.1 && (bt889.2.2.2.1 == 0 && (bt889.2.2.2.2.1 == 0 && (bt889.2.2.2.2.2.1 == 0)))))) = true then (some (bt889.2.2.2.2.2.2.1 == 0)) else (none)) else (none)))
def quoinlaw10_SymBack.f (k : Nat) (a0_0 : ByteArray) (a0_1 : Int) (a0_2 : Bool) (a0_3 : Int) (a0_4 : Int) (a0_5 : Int) (a1 : Int) (l2 : List Int) : Option (Bool) := (quoinlaw10_alive.f k).bind fun t875 => ((sym_Write.f k a0_0 a0_1 a0_2 a0_3 a0_4 a0_5 a1).bind fun bt876 => (if bt876.2 = 0 then ((sym_Read.f k bt876.1).bind fun bt880 => (if bt880.2.2.2.2.2.2.2 = 0 then (if (!(bt880.2.1 == a0_1) || (!(bt880.2.2.1 == a0_2) || (!(bt880.2.2.2.1 == a0_3) || (!(bt880.2.2.2.2.1 == a0_4) || (!(bt880.2.2.2.2.2.1 == a0_5)))))) = true then (none) else (if bt880.2.2.2.2.2.2.1 = a1 then (if (bt876.1.length : Int) = 24 then (quoinlaw10_SymBack.j0 k l2 t875) else (none)) else (none))) else (none))) else (quoinlaw10_SymBack.j0 k l2 t875)))
theorem quoinlaw10_SymBack.mono_l : ∀ k, (∀ y0 y1, LeO (quoinlaw10_SymBack.j0 k y0 y1) (quoinlaw10_SymBack.j0 (k + 1) y0 y1))
 | 0 => fun _ _ r h => by simp [quoinlaw10_SymBack.j0] at h
 | k + 1 => by
  have ih0 := quoinlaw10_SymBack.mono_l k
  ·
   intro y0 y1
   unfold quoinlaw10_SymBack.j0
   repeat' first
   | (with_reducible exact ih0 _ _)
   | (with_reducible exact quoinlaw10_alive.mono _)
   | (with_reducible exact sym_Read.mono _ _)
   | (with_reducible exact sym_Write.mono _ _ _ _ _ _ _ _)
   | (with_reducible exact LeO.refl _)
   | (with_reducible exact LeO.none _)
   | (with_reducible refine LeO.ite ?_ ?_)
   | (with_reducible refine LeO.bind ?_ (fun _ => ?_))
   | exact ih0 _ _
   | exact quoinlaw10_alive.mono _
   | exact sym_Read.mono _ _
   | exact sym_Write.mono _ _ _ _ _ _ _ _
   | exact LeO.none _
   | refine LeO.ite ?_ ?_
   | refine LeO.bind ?_ (fun _ => ?_)
theorem quoinlaw10_SymBack.mono : ∀ a0 a1 a2 a3 a4 a5 a6 a7 k, LeO (quoinlaw10_SymBack.f k a0 a1 a2 a3 a4 a5 a6 a7) (quoinlaw10_SymBack.f (k + 1) a0 a1 a2 a3 a4 a5 a6 a7) := by
 intro a0 a1 a2 a3 a4 a5 a6 a7 k
 have ih0 := quoinlaw10_SymBack.mono_l k
 unfold quoinlaw10_SymBack.f
 repeat' first
   | (with_reducible exact ih0 _ _)
   | (with_reducible exact quoinlaw10_alive.mono _)
   | (with_reducible exact sym_Read.mono _ _)
   | (with_reducible exact sym_Write.mono _ _ _ _ _ _ _ _)
   | (with_reducible exact LeO.refl _)
   | (with_reducible exact LeO.none _)
   | (with_reducible refine LeO.ite ?_ ?_)
   | (with_reducible refine LeO.bind ?_ (fun _ => ?_))
   | exact ih0 _ _
   | exact quoinlaw10_alive.mono _
   | exact sym_Read.mono _ _
   | exact sym_Write.mono _ _ _ _ _ _ _ _
   | exact LeO.none _
   | refine LeO.ite ?_ ?_
   | refine LeO.bind ?_ (fun _ => ?_)
set_option maxHeartbeats 8000000 in
set_option maxRecDepth 100000 in
theorem quoinlaw10_SymBack.calls (k : Nat) (a0_0 : ByteArray) (a0_1 : Int) (a0_2 : Bool) (a0_3 : Int) (a0_4 : Int) (a0_5 : Int) (a1 : Int) (A2 : Option Addr) (c2 : Nat) (l2 : List Int) (r : Bool) (w : World) (hr2 : Kd.C (Kd.int .u8) w A2 l2.length l2) (hc2 : l2.length ≤ c2) (h : quoinlaw10_SymBack.f k a0_0 a0_1 a0_2 a0_3 a0_4 a0_5 a1 l2 = some r) :
  Calls Try.prog 23 #[.agg #[.string a0_0, .int .u8 a0_1, .bool a0_2, .int .i64 a0_3, .int .i64 a0_4, .int .i64 a0_5], .int .i64 a1, .slice A2 l2.length c2] w fun e w' => e = .returned (.bool r) ∧ Below w.heap.size w w' := by
 have hu64 := Try.underlying64
 have HR2 := Aside0.mk hr2
 have HC2 := Aside0.mk hc2
 clear hr2 hc2
 have HB := Aside0.mk (Below.refl w.heap.size w)
 have H : ((quoinlaw10_alive.f k).bind fun t875 => ((sym_Write.f k a0_0 a0_1 a0_2 a0_3 a0_4 a0_5 a1).bind fun bt876 => (if bt876.2 = 0 then ((sym_Read.f k bt876.1).bind fun bt880 => (if bt880.2.2.2.2.2.2.2 = 0 then (if (!(bt880.2.1 == a0_1) || (!(bt880.2.2.1 == a0_2) || (!(bt880.2.2.2.1 == a0_3) || (!(bt880.2.2.2.2.1 == a0_4) || (!(bt880.2.2.2.2.2.1 == a0_5)))))) = true then (none) else (if bt880.2.2.2.2.2.2.1 = a1 then (if (bt876.1.length : Int) = 24 then (quoinlaw10_SymBack.j0 k l2 t875) else (none)) else (none))) else (none))) else (quoinlaw10_SymBack.j0 k l2 t875)))) = some r := h
 clear h
 replace H := Option.bind_eq_some_iff.mp H
 obtain ⟨t875, A40, H⟩ := H
 replace H : ((sym_Write.f k a0_0 a0_1 a0_2 a0_3 a0_4 a0_5 a1).bind fun bt876 => (if bt876.2 = 0 then ((sym_Read.f k bt876.1).bind fun bt880 => (if bt880.2.2.2.2.2.2.2 = 0 then (if (!(bt880.2.1 == a0_1) || (!(bt880.2.2.1 == a0_2) || (!(bt880.2.2.2.1 == a0_3) || (!(bt880.2.2.2.2.1 == a0_4) || (!(bt880.2.2.2.2.2.1 == a0_5)))))) = true then (none) else (if bt880.2.2.2.2.2.2.1 = a1 then (if (bt876.1.length : Int) = 24 then (quoinlaw10_SymBack.j0 k l2 t875) else (none)) else (none))) else (none))) else (quoinlaw10_SymBack.j0 k l2 t875))) = some r := H
 have A4 := Aside0.mk A40
 clear A40
 replace H := Option.bind_eq_some_iff.mp H
 obtain ⟨⟨t876, t879⟩, A50, H⟩ := H
 replace H : (if t879 = 0 then ((sym_Read.f k t876).bind fun bt880 => (if bt880.2.2.2.2.2.2.2 = 0 then (if (!(bt880.2.1 == a0_1) || (!(bt880.2.2.1 == a0_2) || (!(bt880.2.2.2.1 == a0_3) || (!(bt880.2.2.2.2.1 == a0_4) || (!(bt880.2.2.2.2.2.1 == a0_5)))))) = true then (none) else (if bt880.2.2.2.2.2.2.1 = a1 then (if (t876.length : Int) = 24 then (quoinlaw10_SymBack.j0 k l2 t875) else (none)) else (none))) else (none))) else (quoinlaw10_SymBack.j0 k l2 t875)) = some r := H
 have A5 := Aside0.mk A50
 clear A50
 have HC6 := Aside0.mk H
 clear H
 go_enter Try.func23, Try.ntmps23
 go_upto_if 26 with (first | ((with_reducible refine gate_dst (N := 3) rfl ?_); (try (refine gate_guard (by rfl) ?_; dsimp only)); refine box_event ?hg (N := 3) ?hd (cs := #[.string a0_0, .int .u8 a0_1, .bool a0_2, .int .i64 a0_3, .int .i64 a0_4, .int .i64 a0_5]) (t := 64) ?hr ?_; (case hd => rfl); (case hg => rfl); (case hr => first | (go_simp; done) | (go_simp; rfl)); intro gb874 hg w7 hbox hb; have n0_ := Aside0.mk (below_step (by repeat (first | (with_reducible first | exact HB.out | apply below_alloc | apply pw_below_drewN | apply below_drew1) | exact HB.out)) hb); have n1_ := Aside0.mk (hbox); have n2_ := Aside0.mk ((by rw [hg]; exact (below_size (by repeat (first | (with_reducible first | exact HB.out | apply below_alloc | apply pw_below_drewN | apply below_drew1) | exact HB.out))) : w.heap.size ≤ gb874)); have n3_ := Aside0.mk ((by rw [hg]; exact (below_size (by repeat (first | (with_reducible first | exact HB.out | apply below_alloc | apply pw_below_drewN | apply below_drew1) | exact HB.out))) : w.heap.size ≤ gb874)); clear HB; have HB := n0_; have BK874 := n1_; have GW874 := n2_; have GE874 := n3_; clear n0_ n1_ n2_ n3_; clear hb hbox hg) | ((with_reducible refine gate_callee (f := 49) rfl ?_); refine goesL_ (some 18) rfl rfl Try.func49 (by kernel_rfl) rfl #[] rfl (by (try simp only [List.map_toArray, List.map_cons, List.map_nil]); first | done | rfl | (simp only [List.length_drop, List.length_take]; rfl)) ?_; (with_reducible refine (quoinlaw10_alive.calls k  t875 _ A4.out).mono ?_); rintro e w8 ⟨rfl, hb⟩; refine ⟨_, rfl, ?_⟩; have n0_ := Aside0.mk (blk_below (g := gb874) (o := .cells #[.string a0_0, .int .u8 a0_1, .bool a0_2, .int .i64 a0_3, .int .i64 a0_4, .int .i64 a0_5] 64 (0, 0)) (by (with_reducible repeat (first | refine blk_drewN ?_ _ | refine blk_drew ?_ | refine blk_alloc ?_ _)); exact BK874.out) hb); have n1_ := Aside0.mk (below_step (by repeat (first | (with_reducible first | exact HB.out | apply below_alloc | apply pw_below_drewN | apply below_drew1 | refine below_set ?_ GE874.out) | exact HB.out)) hb); clear BK874; clear HB; have BK874 := n0_; have HB := n1_; clear n0_ n1_; (try clear hb); (try clear hb2); (try clear hk); (try clear hi); have hcz9_0 : w8.cell? ⟨gb874, 0, none⟩ = some (.string a0_0) := (blk_cell BK874.out 0).trans rfl; have hcz9_1 : w8.cell? ⟨gb874, 1, none⟩ = some (.int .u8 a0_1) := (blk_cell BK874.out 1).trans rfl; have hcz9_2 : w8.cell? ⟨gb874, 2, none⟩ = some (.bool a0_2) := (blk_cell BK874.out 2).trans rfl; have hcz9_3 : w8.cell? ⟨gb874, 3, none⟩ = some (.int .i64 a0_3) := (blk_cell BK874.out 3).trans rfl; have hcz9_4 : w8.cell? ⟨gb874, 4, none⟩ = some (.int .i64 a0_4) := (blk_cell BK874.out 4).trans rfl; have hcz9_5 : w8.cell? ⟨gb874, 5, none⟩ = some (.int .i64 a0_5) := (blk_cell BK874.out 5).trans rfl; have hfz9_0 := blk_frozen BK874.out 0; have hfz9_1 := blk_frozen BK874.out 1; have hfz9_2 := blk_frozen BK874.out 2; have hfz9_3 := blk_frozen BK874.out 3; have hfz9_4 := blk_frozen BK874.out 4; have hfz9_5 := blk_frozen BK874.out 5) | ((with_reducible refine gate_callee (f := 51) rfl ?_); refine goesL_ (some 22) rfl rfl Try.func51 (by kernel_rfl) rfl #[.agg #[.string a0_0, .int .u8 a0_1, .bool a0_2, .int .i64 a0_3, .int .i64 a0_4, .int .i64 a0_5], .int .i64 a1] rfl (by (try simp only [List.map_toArray, List.map_cons, List.map_nil]); first | done | rfl | (simp only [List.length_drop, List.length_take]; rfl)) ?_; (with_reducible refine (sym_Write.calls k a0_0 a0_1 a0_2 a0_3 a0_4 a0_5 a1 t876 t879 _ A5.out).mono ?_); rintro e w10 ⟨v877, rfl, ho0, hb⟩; refine ⟨_, rfl, ?_⟩; have n0_ := Aside0.mk (Kd.R_lower ho0 (below_size (by repeat (first | (with_reducible first | exact HB.out | apply below_alloc | apply pw_below_drewN | apply below_drew1 | refine below_set ?_ GE874.out) | exact HB.out)))); have n1_ := Aside0.mk (blk_below (g := gb874) (o := .cells #[.string a0_0, .int .u8 a0_1, .bool a0_2, .int .i64 a0_3, .int .i64 a0_4, .int .i64 a0_5] 64 (0, 0)) (by (with_reducible repeat (first | refine blk_drewN ?_ _ | refine blk_drew ?_ | refine blk_alloc ?_ _)); exact BK874.out) hb); have n2_ := Aside0.mk (below_step (by repeat (first | (with_reducible first | exact HB.out | apply below_alloc | apply pw_below_drewN | apply below_drew1 | refine below_set ?_ GE874.out) | exact HB.out)) hb); clear BK874; clear HB; have HO878 := n0_; have BK874 := n1_; have HB := n2_; clear n0_ n1_ n2_; (try clear hb); (try clear hb2); (try clear hk); (try clear hi); (try clear ho0)))
 (try simp only [Act.put, List.setIfInBounds_toArray, List.set_cons_zero, List.set_cons_succ])
 go_cut [] (fun wc => ∃ (kq : Nat), Aside0 (quoinlaw10_SymBack.j0 kq l2 t875 = some r) ∧ Aside0 (kq ≤ k) ∧ Aside0 (wc.heap[gb874]? = some (.cells #[.string a0_0, .int .u8 a0_1, .bool a0_2, .int .i64 a0_3, .int .i64 a0_4, .int .i64 a0_5] 64 (0, 0))) ∧ Aside0 (Below w.heap.size w wc))
 case first =>
  have H := HC6.out
  clear HC6
  by_cases c11 : t879 = 0
  ·
   rw [if_pos c11] at H
   have c11b0 : (t879 == 0) = true := beq_iff_eq.mpr c11
   have c11b1 : (t879 != 0) = false := bne_eq_false_iff_eq.mpr c11
   clear c11
   (first | rw [c11b0] | (simp only [i64_w, i32_w]; rw [c11b0]) | skip)
   replace H := Option.bind_eq_some_iff.mp H
   obtain ⟨⟨t880, t881, t882, t883, t884, t885, t886, t887⟩, A120, H⟩ := H
   replace H : (if t887 = 0 then (if (!(t881 == a0_1) || (!(t882 == a0_2) || (!(t883 == a0_3) || (!(t884 == a0_4) || (!(t885 == a0_5)))))) = true then (none) else (if t886 = a1 then (if (t876.length : Int) = 24 then (quoinlaw10_SymBack.j0 k l2 t875) else (none)) else (none))) else (none)) = some r := H
   have A12 := Aside0.mk A120
   clear A120
   by_cases c13 : t887 = 0
   ·
    rw [if_pos c13] at H
    have c13b0 : (t887 == 0) = true := beq_iff_eq.mpr c13
    have c13b1 : (t887 != 0) = false := bne_eq_false_iff_eq.mpr c13
    clear c13
    by_cases c14 : (!(t881 == a0_1) || (!(t882 == a0_2) || (!(t883 == a0_3) || (!(t884 == a0_4) || (!(t885 == a0_5)))))) = true
    ·
     rw [if_pos c14] at H
     exact absurd H (by simp)
    ·
     rw [if_neg c14] at H
     have c14b0 : (!(t881 == a0_1) || (!(t882 == a0_2) || (!(t883 == a0_3) || (!(t884 == a0_4) || (!(t885 == a0_5)))))) = false := by simpa using c14
     clear c14
     by_cases c15 : t886 = a1
     ·
      rw [if_pos c15] at H
      have c15b0 : (t886 == a1) = true := beq_iff_eq.mpr c15
      have c15b1 : (t886 != a1) = false := bne_eq_false_iff_eq.mpr c15
      clear c15
      by_cases c16 : (t876.length : Int) = 24
      ·
       rw [if_pos c16] at H
       have c16b0 : ((t876.length : Int) == 24) = true := beq_iff_eq.mpr c16
       have c16b1 : ((t876.length : Int) != 24) = false := bne_eq_false_iff_eq.mpr c16
       clear c16
       have H' := Aside0.mk H
       clear H
       obtain ⟨Ao17, co17, eo17⟩ := Kd.R_slice HO878.out
       subst eo17
       go_wp2_with (first | ((with_reducible refine gate_callee (f := 57) rfl ?_); refine goesL_ (some 29) rfl rfl Try.func57 (by kernel_rfl) rfl #[.slice Ao17 t876.length co17] rfl (by (try simp only [List.map_toArray, List.map_cons, List.map_nil]); first | done | rfl | (simp only [List.length_drop, List.length_take]; rfl)) ?_; (with_reducible refine (sym_Read.calls k _ _ t876 t880 t881 t882 t883 t884 t885 t886 t887 _ ?side1 ?side2 A12.out).mono ?_); (case side1 => repeat (first | exact (Kd.R_reads' HO878.out).2.2 | (with_reducible refine Kd.C_alloc ?_ _) | (with_reducible refine Kd.C_drewN ?_ _) | (with_reducible refine Kd.C_drew ?_))); (case side2 => exact (Kd.R_reads' HO878.out).2.1); rintro e w18 ⟨rfl, hb⟩; refine ⟨_, rfl, ?_⟩; have n0_ := Aside0.mk (Kd.R_below (by (with_reducible repeat (first | apply Kd.R_alloc | apply Kd.R_drewN | apply Kd.R_drew)); exact HO878.out) hb); have n1_ := Aside0.mk (blk_below (g := gb874) (o := .cells #[.string a0_0, .int .u8 a0_1, .bool a0_2, .int .i64 a0_3, .int .i64 a0_4, .int .i64 a0_5] 64 (0, 0)) (by (with_reducible repeat (first | refine blk_drewN ?_ _ | refine blk_drew ?_ | refine blk_alloc ?_ _)); exact BK874.out) hb); have n2_ := Aside0.mk (below_step (by repeat (first | (with_reducible first | exact HB.out | apply below_alloc | apply pw_below_drewN | apply below_drew1 | refine below_set ?_ GE874.out) | exact HB.out)) hb); clear HO878; clear BK874; clear HB; have HO878 := n0_; have BK874 := n1_; have HB := n2_; clear n0_ n1_ n2_; (try clear hb); (try clear hb2); (try clear hk); (try clear hi)) | ((with_reducible refine gate_dst (N := 10) rfl ?_); (try (refine gate_guard (by rfl) ?_; dsimp only)); refine box_event ?hg (N := 10) ?hd (cs := #[.string (⟨#[]⟩ : ByteArray), .int .u8 0, .bool false, .int .i64 0, .int .i64 0, .int .i64 0]) (t := 64) ?hr ?_; (case hd => rfl); (case hg => rfl); (case hr => first | (go_simp; done) | (go_simp; rfl)); intro gb888 hg w19 hbox hb; have n0_ := Aside0.mk (Kd.R_below (by (with_reducible repeat (first | apply Kd.R_alloc | apply Kd.R_drewN | apply Kd.R_drew)); exact HO878.out) hb); have n1_ := Aside0.mk (blk_below (g := gb874) (o := .cells #[.string a0_0, .int .u8 a0_1, .bool a0_2, .int .i64 a0_3, .int .i64 a0_4, .int .i64 a0_5] 64 (0, 0)) (by (with_reducible repeat (first | refine blk_drewN ?_ _ | refine blk_drew ?_ | refine blk_alloc ?_ _)); exact BK874.out) hb); have n2_ := Aside0.mk (below_step (by repeat (first | (with_reducible first | exact HB.out | apply below_alloc | apply pw_below_drewN | apply below_drew1 | refine below_set ?_ GE874.out) | exact HB.out)) hb); have n3_ := Aside0.mk (hbox); have n4_ := Aside0.mk ((by rw [hg]; exact (below_size (by repeat (first | (with_reducible first | exact HB.out | apply below_alloc | apply pw_below_drewN | apply below_drew1 | refine below_set ?_ GE874.out) | exact HB.out))) : w.heap.size ≤ gb888)); have n5_ := Aside0.mk ((by rw [hg]; exact (below_size (by repeat (first | (with_reducible first | exact HB.out | apply below_alloc | apply pw_below_drewN | apply below_drew1 | refine below_set ?_ GE874.out) | exact HB.out))) : w.heap.size ≤ gb888)); have n6_ := Aside0.mk ((by rw [hg]; exact Nat.ne_of_lt (blk_lt (g := gb874) (o := .cells #[.string a0_0, .int .u8 a0_1, .bool a0_2, .int .i64 a0_3, .int .i64 a0_4, .int .i64 a0_5] 64 (0, 0)) (by (with_reducible repeat (first | refine blk_drewN ?_ _ | refine blk_drew ?_ | refine blk_alloc ?_ _)); exact BK874.out)) : gb874 ≠ gb888)); have n7_ := Aside0.mk ((by rw [hg]; exact Nat.ne_of_gt (blk_lt (g := gb874) (o := .cells #[.string a0_0, .int .u8 a0_1, .bool a0_2, .int .i64 a0_3, .int .i64 a0_4, .int .i64 a0_5] 64 (0, 0)) (by (with_reducible repeat (first | refine blk_drewN ?_ _ | refine blk_drew ?_ | refine blk_alloc ?_ _)); exact BK874.out)) : gb888 ≠ gb874)); clear HO878; clear BK874; clear HB; have HO878 := n0_; have BK874 := n1_; have HB := n2_; have BK888 := n3_; have GW888 := n4_; have GE888 := n5_; have NB874_888 := n6_; have NB888_874 := n7_; clear n0_ n1_ n2_ n3_ n4_ n5_ n6_ n7_; clear hb hbox hg; have hnb20 := NB888_874.out; have hnc20 := NB874_888.out; have hcz21_0 : w19.cell? ⟨gb888, 0, none⟩ = some (.string (⟨#[]⟩ : ByteArray)) := (blk_cell BK888.out 0).trans rfl; have hcz21_1 : w19.cell? ⟨gb888, 1, none⟩ = some (.int .u8 0) := (blk_cell BK888.out 1).trans rfl; have hcz21_2 : w19.cell? ⟨gb888, 2, none⟩ = some (.bool false) := (blk_cell BK888.out 2).trans rfl; have hcz21_3 : w19.cell? ⟨gb888, 3, none⟩ = some (.int .i64 0) := (blk_cell BK888.out 3).trans rfl; have hcz21_4 : w19.cell? ⟨gb888, 4, none⟩ = some (.int .i64 0) := (blk_cell BK888.out 4).trans rfl; have hcz21_5 : w19.cell? ⟨gb888, 5, none⟩ = some (.int .i64 0) := (blk_cell BK888.out 5).trans rfl; have hfz21_0 := blk_frozen BK888.out 0; have hfz21_1 := blk_frozen BK888.out 1; have hfz21_2 := blk_frozen BK888.out 2; have hfz21_3 := blk_frozen BK888.out 3; have hfz21_4 := blk_frozen BK888.out 4; have hfz21_5 := blk_frozen BK888.out 5; have hcz22_0 : w19.cell? ⟨gb874, 0, none⟩ = some (.string a0_0) := (blk_cell BK874.out 0).trans rfl; have hcz22_1 : w19.cell? ⟨gb874, 1, none⟩ = some (.int .u8 a0_1) := (blk_cell BK874.out 1).trans rfl; have hcz22_2 : w19.cell? ⟨gb874, 2, none⟩ = some (.bool a0_2) := (blk_cell BK874.out 2).trans rfl; have hcz22_3 : w19.cell? ⟨gb874, 3, none⟩ = some (.int .i64 a0_3) := (blk_cell BK874.out 3).trans rfl; have hcz22_4 : w19.cell? ⟨gb874, 4, none⟩ = some (.int .i64 a0_4) := (blk_cell BK874.out 4).trans rfl; have hcz22_5 : w19.cell? ⟨gb874, 5, none⟩ = some (.int .i64 a0_5) := (blk_cell BK874.out 5).trans rfl; have hfz22_0 := blk_frozen BK874.out 0; have hfz22_1 := blk_frozen BK874.out 1; have hfz22_2 := blk_frozen BK874.out 2; have hfz22_3 := blk_frozen BK874.out 3; have hfz22_4 := blk_frozen BK874.out 4; have hfz22_5 := blk_frozen BK874.out 5))
       go_meet
       case rel => exact ⟨_, H', ⟨by first | omega | exact Nat.le_refl _⟩, ⟨by (with_reducible repeat (first | refine blk_drewN ?_ _ | refine blk_drew ?_ | refine blk_alloc ?_ _)); refine blk_far ?_ NB874_888.out _; (with_reducible repeat (first | refine blk_drewN ?_ _ | refine blk_drew ?_ | refine blk_alloc ?_ _)); refine blk_far ?_ NB874_888.out _; (with_reducible repeat (first | refine blk_drewN ?_ _ | refine blk_drew ?_ | refine blk_alloc ?_ _)); refine blk_far ?_ NB874_888.out _; (with_reducible repeat (first | refine blk_drewN ?_ _ | refine blk_drew ?_ | refine blk_alloc ?_ _)); refine blk_far ?_ NB874_888.out _; (with_reducible repeat (first | refine blk_drewN ?_ _ | refine blk_drew ?_ | refine blk_alloc ?_ _)); refine blk_far ?_ NB874_888.out _; (with_reducible repeat (first | refine blk_drewN ?_ _ | refine blk_drew ?_ | refine blk_alloc ?_ _)); refine blk_far ?_ NB874_888.out _; (with_reducible repeat (first | refine blk_drewN ?_ _ | refine blk_drew ?_ | refine blk_alloc ?_ _)); refine blk_far ?_ NB874_888.out _; (with_reducible repeat (first | refine blk_drewN ?_ _ | refine blk_drew ?_ | refine blk_alloc ?_ _)); exact BK874.out⟩, ⟨by repeat (first | (with_reducible first | exact HB.out | apply below_alloc | apply pw_below_drewN | apply below_drew1 | refine below_set ?_ GE874.out | refine below_set ?_ GE888.out) | exact HB.out)⟩⟩
      ·
       rw [if_neg c16] at H
       exact absurd H (by simp)
     ·
      rw [if_neg c15] at H
      exact absurd H (by simp)
   ·
    rw [if_neg c13] at H
    exact absurd H (by simp)
  ·
   rw [if_neg c11] at H
   have c11b0 : (t879 == 0) = false := beq_eq_false_iff_ne.mpr c11
   have c11b1 : (t879 != 0) = true := bne_iff_ne.mpr c11
   (first | rw [c11b0] | (simp only [i64_w, i32_w]; rw [c11b0]) | skip)
   have H' := Aside0.mk H
   clear H
   go_wp2
   go_meet
   case rel => exact ⟨_, H', ⟨by first | omega | exact Nat.le_refl _⟩, ⟨by (with_reducible repeat (first | refine blk_drewN ?_ _ | refine blk_drew ?_ | refine blk_alloc ?_ _)); exact BK874.out⟩, ⟨by repeat (first | (with_reducible first | exact HB.out | apply below_alloc | apply pw_below_drewN | apply below_drew1 | refine below_set ?_ GE874.out) | exact HB.out)⟩⟩
 case rest =>
  clear HC6
  try clear c1
  try clear c2
  try clear p2
  try clear c4
  try clear c5
  try clear c11
  try clear c11b0
  try clear c11b1
  try clear c13
  try clear c13b0
  try clear c13b1
  try clear c14
  try clear c14b0
  try clear c15
  try clear c15b0
  try clear c15b1
  try clear c16
  try clear c16b0
  try clear c16b1
  try clear c20
  try clear hcz21_0
  try clear hcz21_1
  try clear hcz21_2
  try clear hcz21_3
  try clear hcz21_4
  try clear hcz21_5
  try clear hcz22_0
  try clear hcz22_1
  try clear hcz22_2
  try clear hcz22_3
  try clear hcz22_4
  try clear hcz22_5
  try clear hcz9_0
  try clear hcz9_1
  try clear hcz9_2
  try clear hcz9_3
  try clear hcz9_4
  try clear hcz9_5
  try clear hfz21_0
  try clear hfz21_1
  try clear hfz21_2
  try clear hfz21_3
  try clear hfz21_4
  try clear hfz21_5
  try clear hfz22_0
  try clear hfz22_1
  try clear hfz22_2
  try clear hfz22_3
  try clear hfz22_4
  try clear hfz22_5
  try clear hfz9_0
  try clear hfz9_1
  try clear hfz9_2
  try clear hfz9_3
  try clear hfz9_4
  try clear hfz9_5
  obtain ⟨kq, HA, HJ5, BK874, HB⟩ := hcut
  cases kq with
  | zero => exact absurd HA.out (by simp [quoinlaw10_SymBack.j0])
  | succ kj5 =>
   have H := HA.out
   clear HA
   simp only [quoinlaw10_SymBack.j0] at H
   replace H := Option.bind_eq_some_iff.mp H
   obtain ⟨⟨t889, t890, t891, t892, t893, t894, t895, t896⟩, A230, H⟩ := H
   replace H : (if t896 = 0 then ((sym_Write.f kj5 (⟨#[97, 110, 121]⟩ : ByteArray) t890 t891 t892 t893 t894 t895).bind fun bt898 => (if t875 = true then (if bt898.2 = 0 then (some ((strOfNums bt898.1).toList == (strOfNums l2).toList)) else (none)) else (none))) else (if t875 = true then (if (t889.toList == ([] : List UInt8) && (t890 == 0 && (!t891 && (t892 == 0 && (t893 == 0 && (t894 == 0)))))) = true then (some (t895 == 0)) else (none)) else (none))) = some r := H
   have A23 := Aside0.mk A230
   clear A230
   by_cases c24 : t896 = 0
   ·
    rw [if_pos c24] at H
    have c24b0 : (t896 == 0) = true := beq_iff_eq.mpr c24
    have c24b1 : (t896 != 0) = false := bne_eq_false_iff_eq.mpr c24
    clear c24
    replace H := Option.bind_eq_some_iff.mp H
    obtain ⟨⟨t898, t901⟩, A250, H⟩ := H
    replace H : (if t875 = true then (if t901 = 0 then (some ((strOfNums t898).toList == (strOfNums l2).toList)) else (none)) else (none)) = some r := H
    have A25 := Aside0.mk A250
    clear A250
    by_cases c26 : t875 = true
    ·
     subst c26
     have H1 : (if t901 = 0 then (some ((strOfNums t898).toList == (strOfNums l2).toList)) else (none)) = some r := by rw [if_pos rfl] at H; exact H
     clear H
     have H := H1
     clear H1
     by_cases c27 : t901 = 0
     ·
      rw [if_pos c27] at H
      have c27b0 : (t901 == 0) = true := beq_iff_eq.mpr c27
      have c27b1 : (t901 != 0) = false := bne_eq_false_iff_eq.mpr c27
      clear c27
      obtain rfl := Option.some.inj H
      go_wp2_with (first | ((with_reducible refine gate_callee (f := 57) rfl ?_); refine goesL_ (some 55) rfl rfl Try.func57 (by kernel_rfl) rfl #[.slice A2 l2.length c2] rfl (by (try simp only [List.map_toArray, List.map_cons, List.map_nil]); first | done | rfl | (simp only [List.length_drop, List.length_take]; rfl)) ?_; (with_reducible refine (sym_Read.calls kj5 _ _ l2 t889 t890 t891 t892 t893 t894 t895 t896 _ ?side1 ?side2 A23.out).mono ?_); (case side1 => repeat (first | exact (Kd.C_below HR2.out HB.out) | (with_reducible refine Kd.C_alloc ?_ _) | (with_reducible refine Kd.C_drewN ?_ _) | (with_reducible refine Kd.C_drew ?_))); (case side2 => exact HC2.out); rintro e w28 ⟨rfl, hb⟩; refine ⟨_, rfl, ?_⟩; have n0_ := Aside0.mk (blk_below (g := gb874) (o := .cells #[.string a0_0, .int .u8 a0_1, .bool a0_2, .int .i64 a0_3, .int .i64 a0_4, .int .i64 a0_5] 64 (0, 0)) (by (with_reducible repeat (first | refine blk_drewN ?_ _ | refine blk_drew ?_ | refine blk_alloc ?_ _)); exact BK874.out) hb); have n1_ := Aside0.mk (below_step (by repeat (first | (with_reducible first | exact HB.out | apply below_alloc | apply pw_below_drewN | apply below_drew1 | refine below_set ?_ GE874.out) | exact HB.out)) hb); clear BK874; clear HB; have BK874 := n0_; have HB := n1_; clear n0_ n1_; (try clear hb); (try clear hb2); (try clear hk); (try clear hi)) | ((with_reducible refine gate_dst (N := 13) rfl ?_); (try (refine gate_guard (by rfl) ?_; dsimp only)); refine box_event ?hg (N := 13) ?hd (cs := #[.string (⟨#[]⟩ : ByteArray), .int .u8 0, .bool false, .int .i64 0, .int .i64 0, .int .i64 0]) (t := 64) ?hr ?_; (case hd => rfl); (case hg => rfl); (case hr => first | (go_simp; done) | (go_simp; rfl)); intro gb897 hg w29 hbox hb; have n0_ := Aside0.mk (blk_below (g := gb874) (o := .cells #[.string a0_0, .int .u8 a0_1, .bool a0_2, .int .i64 a0_3, .int .i64 a0_4, .int .i64 a0_5] 64 (0, 0)) (by (with_reducible repeat (first | refine blk_drewN ?_ _ | refine blk_drew ?_ | refine blk_alloc ?_ _)); exact BK874.out) hb); have n1_ := Aside0.mk (below_step (by repeat (first | (with_reducible first | exact HB.out | apply below_alloc | apply pw_below_drewN | apply below_drew1 | refine below_set ?_ GE874.out) | exact HB.out)) hb); have n2_ := Aside0.mk (hbox); have n3_ := Aside0.mk ((by rw [hg]; exact (below_size (by repeat (first | (with_reducible first | exact HB.out | apply below_alloc | apply pw_below_drewN | apply below_drew1 | refine below_set ?_ GE874.out) | exact HB.out))) : w.heap.size ≤ gb897)); have n4_ := Aside0.mk ((by rw [hg]; exact (below_size (by repeat (first | (with_reducible first | exact HB.out | apply below_alloc | apply pw_below_drewN | apply below_drew1 | refine below_set ?_ GE874.out) | exact HB.out))) : w.heap.size ≤ gb897)); have n5_ := Aside0.mk ((by rw [hg]; exact Nat.ne_of_lt (blk_lt (g := gb874) (o := .cells #[.string a0_0, .int .u8 a0_1, .bool a0_2, .int .i64 a0_3, .int .i64 a0_4, .int .i64 a0_5] 64 (0, 0)) (by (with_reducible repeat (first | refine blk_drewN ?_ _ | refine blk_drew ?_ | refine blk_alloc ?_ _)); exact BK874.out)) : gb874 ≠ gb897)); have n6_ := Aside0.mk ((by rw [hg]; exact Nat.ne_of_gt (blk_lt (g := gb874) (o := .cells #[.string a0_0, .int .u8 a0_1, .bool a0_2, .int .i64 a0_3, .int .i64 a0_4, .int .i64 a0_5] 64 (0, 0)) (by (with_reducible repeat (first | refine blk_drewN ?_ _ | refine blk_drew ?_ | refine blk_alloc ?_ _)); exact BK874.out)) : gb897 ≠ gb874)); clear BK874; clear HB; have BK874 := n0_; have HB := n1_; have BK897 := n2_; have GW897 := n3_; have GE897 := n4_; have NB874_897 := n5_; have NB897_874 := n6_; clear n0_ n1_ n2_ n3_ n4_ n5_ n6_; clear hb hbox hg; have hnb30 := NB897_874.out; have hnc30 := NB874_897.out; have hcz31_0 : w29.cell? ⟨gb897, 0, none⟩ = some (.string (⟨#[]⟩ : ByteArray)) := (blk_cell BK897.out 0).trans rfl; have hcz31_1 : w29.cell? ⟨gb897, 1, none⟩ = some (.int .u8 0) := (blk_cell BK897.out 1).trans rfl; have hcz31_2 : w29.cell? ⟨gb897, 2, none⟩ = some (.bool false) := (blk_cell BK897.out 2).trans rfl; have hcz31_3 : w29.cell? ⟨gb897, 3, none⟩ = some (.int .i64 0) := (blk_cell BK897.out 3).trans rfl; have hcz31_4 : w29.cell? ⟨gb897, 4, none⟩ = some (.int .i64 0) := (blk_cell BK897.out 4).trans rfl; have hcz31_5 : w29.cell? ⟨gb897, 5, none⟩ = some (.int .i64 0) := (blk_cell BK897.out 5).trans rfl; have hfz31_0 := blk_frozen BK897.out 0; have hfz31_1 := blk_frozen BK897.out 1; have hfz31_2 := blk_frozen BK897.out 2; have hfz31_3 := blk_frozen BK897.out 3; have hfz31_4 := blk_frozen BK897.out 4; have hfz31_5 := blk_frozen BK897.out 5) | ((with_reducible refine gate_callee (f := 51) rfl ?_); refine goesL_ (some 75) rfl rfl Try.func51 (by kernel_rfl) rfl #[.agg #[.string (⟨#[97, 110, 121]⟩ : ByteArray), .int .u8 t890, .bool t891, .int .i64 t892, .int .i64 t893, .int .i64 t894], .int .i64 t895] rfl (by (try simp only [List.map_toArray, List.map_cons, List.map_nil]); first | done | rfl | (simp only [List.length_drop, List.length_take]; rfl)) ?_; (with_reducible refine (sym_Write.calls kj5 (⟨#[97, 110, 121]⟩ : ByteArray) t890 t891 t892 t893 t894 t895 t898 t901 _ A25.out).mono ?_); rintro e w32 ⟨v899, rfl, ho0, hb⟩; refine ⟨_, rfl, ?_⟩; have n0_ := Aside0.mk (Kd.R_lower ho0 (below_size (by repeat (first | (with_reducible first | exact HB.out | apply below_alloc | apply pw_below_drewN | apply below_drew1 | refine below_set ?_ GE874.out | refine below_set ?_ GE897.out) | exact HB.out)))); have n1_ := Aside0.mk (blk_below (g := gb874) (o := .cells #[.string a0_0, .int .u8 a0_1, .bool a0_2, .int .i64 a0_3, .int .i64 a0_4, .int .i64 a0_5] 64 (0, 0)) (by (with_reducible repeat (first | refine blk_drewN ?_ _ | refine blk_drew ?_ | refine blk_alloc ?_ _)); refine blk_far ?_ NB874_897.out _; (with_reducible repeat (first | refine blk_drewN ?_ _ | refine blk_drew ?_ | refine blk_alloc ?_ _)); refine blk_far ?_ NB874_897.out _; (with_reducible repeat (first | refine blk_drewN ?_ _ | refine blk_drew ?_ | refine blk_alloc ?_ _)); refine blk_far ?_ NB874_897.out _; (with_reducible repeat (first | refine blk_drewN ?_ _ | refine blk_drew ?_ | refine blk_alloc ?_ _)); refine blk_far ?_ NB874_897.out _; (with_reducible repeat (first | refine blk_drewN ?_ _ | refine blk_drew ?_ | refine blk_alloc ?_ _)); refine blk_far ?_ NB874_897.out _; (with_reducible repeat (first | refine blk_drewN ?_ _ | refine blk_drew ?_ | refine blk_alloc ?_ _)); refine blk_far ?_ NB874_897.out _; (with_reducible repeat (first | refine blk_drewN ?_ _ | refine blk_drew ?_ | refine blk_alloc ?_ _)); refine blk_far ?_ NB874_897.out _; (with_reducible repeat (first | refine blk_drewN ?_ _ | refine blk_drew ?_ | refine blk_alloc ?_ _)); exact BK874.out) hb); have n2_ := Aside0.mk (blk_below (g := gb897) (o := .cells #[.string (⟨#[97, 110, 121]⟩ : ByteArray), .int .u8 t890, .bool t891, .int .i64 t892, .int .i64 t893, .int .i64 t894] 64 (0, 0)) (by (with_reducible repeat (first | refine blk_drewN ?_ _ | refine blk_drew ?_ | refine blk_alloc ?_ _)); refine blk_put (cs := #[.string t889, .int .u8 t890, .bool t891, .int .i64 t892, .int .i64 t893, .int .i64 t894]) ?_ 0 _ rfl; (with_reducible repeat (first | refine blk_drewN ?_ _ | refine blk_drew ?_ | refine blk_alloc ?_ _)); refine blk_put (cs := #[.string t889, .int .u8 t890, .bool t891, .int .i64 t892, .int .i64 t893, .int .i64 0]) ?_ 5 _ rfl; (with_reducible repeat (first | refine blk_drewN ?_ _ | refine blk_drew ?_ | refine blk_alloc ?_ _)); refine blk_put (cs := #[.string t889, .int .u8 t890, .bool t891, .int .i64 t892, .int .i64 0, .int .i64 0]) ?_ 4 _ rfl; (with_reducible repeat (first | refine blk_drewN ?_ _ | refine blk_drew ?_ | refine blk_alloc ?_ _)); refine blk_put (cs := #[.string t889, .int .u8 t890, .bool t891, .int .i64 0, .int .i64 0, .int .i64 0]) ?_ 3 _ rfl; (with_reducible repeat (first | refine blk_drewN ?_ _ | refine blk_drew ?_ | refine blk_alloc ?_ _)); refine blk_put (cs := #[.string t889, .int .u8 t890, .bool false, .int .i64 0, .int .i64 0, .int .i64 0]) ?_ 2 _ rfl; (with_reducible repeat (first | refine blk_drewN ?_ _ | refine blk_drew ?_ | refine blk_alloc ?_ _)); refine blk_put (cs := #[.string t889, .int .u8 0, .bool false, .int .i64 0, .int .i64 0, .int .i64 0]) ?_ 1 _ rfl; (with_reducible repeat (first | refine blk_drewN ?_ _ | refine blk_drew ?_ | refine blk_alloc ?_ _)); refine blk_put (cs := #[.string (⟨#[]⟩ : ByteArray), .int .u8 0, .bool false, .int .i64 0, .int .i64 0, .int .i64 0]) ?_ 0 _ rfl; (with_reducible repeat (first | refine blk_drewN ?_ _ | refine blk_drew ?_ | refine blk_alloc ?_ _)); exact BK897.out) hb); have n3_ := Aside0.mk (below_step (by repeat (first | (with_reducible first | exact HB.out | apply below_alloc | apply pw_below_drewN | apply below_drew1 | refine below_set ?_ GE874.out | refine below_set ?_ GE897.out) | exact HB.out)) hb); clear BK874; clear BK897; clear HB; have HO900 := n0_; have BK874 := n1_; have BK897 := n2_; have HB := n3_; clear n0_ n1_ n2_ n3_; (try clear hb); (try clear hb2); (try clear hk); (try clear hi); (try clear ho0); have hcv33 := own_string (P := Try.prog) Try.underlying24 Try.underlying5 Try.underlying9 (Kd.own_of_R HO900.out); have hcv34 := fun n_ : Nat => own_string (P := Try.prog) Try.underlying24 Try.underlying5 Try.underlying9 (Kd.own_of_R (Kd.R_drewN HO900.out n_)); have hcv35 := fun (i_ : Nat) (u_ : Value) => own_string (P := Try.prog) Try.underlying24 Try.underlying5 Try.underlying9 (Kd.own_of_R (Kd.R_far (p := ⟨gb874, i_, none⟩) (Kd.R_types HO900.out BK874.out (by decide)) (fun _ hk => hk.2) u_)); have hcv36 := fun (i_ : Nat) (u_ : Value) (n_ : Nat) => own_string (P := Try.prog) Try.underlying24 Try.underlying5 Try.underlying9 (Kd.own_of_R (Kd.R_drewN (Kd.R_far (p := ⟨gb874, i_, none⟩) (Kd.R_types HO900.out BK874.out (by decide)) (fun _ hk => hk.2) u_) n_)); have hcv37 := fun (i_ : Nat) (u_ : Value) => own_string (P := Try.prog) Try.underlying24 Try.underlying5 Try.underlying9 (Kd.own_of_R (Kd.R_far (p := ⟨gb897, i_, none⟩) (Kd.R_types HO900.out BK897.out (by decide)) (fun _ hk => hk.2) u_)); have hcv38 := fun (i_ : Nat) (u_ : Value) (n_ : Nat) => own_string (P := Try.prog) Try.underlying24 Try.underlying5 Try.underlying9 (Kd.own_of_R (Kd.R_drewN (Kd.R_far (p := ⟨gb897, i_, none⟩) (Kd.R_types HO900.out BK897.out (by decide)) (fun _ hk => hk.2) u_) n_)); have hcv39 := Kd.C_string (P := Try.prog) (A := A2) (c := c2) Try.underlying24 Try.underlying5 Try.underlying9 (Kd.C_below HR2.out HB.out); have hcv40 := fun n_ : Nat => Kd.C_string (P := Try.prog) (A := A2) (c := c2) Try.underlying24 Try.underlying5 Try.underlying9 (Kd.C_drewN (Kd.C_below HR2.out HB.out) n_)))
      go_ret
      exact ⟨by first | rfl | (simp [errW_none, errW_some] <;> rfl) | (simp [*, errW_none, errW_some] <;> rfl), by repeat (first | (with_reducible first | exact HB.out | apply below_alloc | apply pw_below_drewN | apply below_drew1 | refine below_set ?_ GE874.out | refine below_set ?_ GE897.out) | exact HB.out)⟩
     ·
      rw [if_neg c27] at H
      exact absurd H (by simp)
    ·
     replace c26 := Bool.eq_false_iff.mpr c26
     subst c26
     have H1 : (none) = some r := by rw [if_neg (show ¬ (false = true) by decide)] at H; exact H
     clear H
     have H := H1
     clear H1
     exact absurd H (by simp)
   ·
    rw [if_neg c24] at H
    have c24b0 : (t896 == 0) = false := beq_eq_false_iff_ne.mpr c24
    have c24b1 : (t896 != 0) = true := bne_iff_ne.mpr c24
    by_cases c41 : t875 = true
    ·
     subst c41
     have H1 : (if (t889.toList == ([] : List UInt8) && (t890 == 0 && (!t891 && (t892 == 0 && (t893 == 0 && (t894 == 0)))))) = true then (some (t895 == 0)) else (none)) = some r := by rw [if_pos rfl] at H; exact H
     clear H
     have H := H1
     clear H1
     by_cases c42 : (t889.toList == ([] : List UInt8) && (t890 == 0 && (!t891 && (t892 == 0 && (t893 == 0 && (t894 == 0)))))) = true
     ·
      rw [if_pos c42] at H
      have c42b0 : (t889.toList == ([] : List UInt8) && (t890 == 0 && (!t891 && (t892 == 0 && (t893 == 0 && (t894 == 0)))))) = true := c42
      (try (have c42b1 : decide (t889.toList = ([] : List UInt8) && (t890 == 0 && (!t891 && (t892 == 0 && (t893 == 0 && (t894 == 0)))))) = true := by simpa using c42))
      (try (have c42b2 : (t889.toList == ([] : List UInt8) && (t890 == 0 && (!t891 && (t892 == 0 && (t893 == 0 && (t894 == 0)))))) = true := by simpa using c42))
      (try (have c42b3 : t889.toList = ([] : List UInt8) ∧ t890 = 0 ∧ t891 = false ∧ t892 = 0 ∧ t893 = 0 ∧ t894 = 0 := by simpa using c42))
      clear c42
      obtain rfl := Option.some.inj H
      go_wp2_with (first | ((with_reducible refine gate_callee (f := 57) rfl ?_); refine goesL_ (some 55) rfl rfl Try.func57 (by kernel_rfl) rfl #[.slice A2 l2.length c2] rfl (by (try simp only [List.map_toArray, List.map_cons, List.map_nil]); first | done | rfl | (simp only [List.length_drop, List.length_take]; rfl)) ?_; (with_reducible refine (sym_Read.calls kj5 _ _ l2 t889 t890 t891 t892 t893 t894 t895 t896 _ ?side1 ?side2 A23.out).mono ?_); (case side1 => repeat (first | exact (Kd.C_below HR2.out HB.out) | (with_reducible refine Kd.C_alloc ?_ _) | (with_reducible refine Kd.C_drewN ?_ _) | (with_reducible refine Kd.C_drew ?_))); (case side2 => exact HC2.out); rintro e w43 ⟨rfl, hb⟩; refine ⟨_, rfl, ?_⟩; have n0_ := Aside0.mk (blk_below (g := gb874) (o := .cells #[.string a0_0, .int .u8 a0_1, .bool a0_2, .int .i64 a0_3, .int .i64 a0_4, .int .i64 a0_5] 64 (0, 0)) (by (with_reducible repeat (first | refine blk_drewN ?_ _ | refine blk_drew ?_ | refine blk_alloc ?_ _)); exact BK874.out) hb); have n1_ := Aside0.mk (below_step (by repeat (first | (with_reducible first | exact HB.out | apply below_alloc | apply pw_below_drewN | apply below_drew1 | refine below_set ?_ GE874.out) | exact HB.out)) hb); clear BK874; clear HB; have BK874 := n0_; have HB := n1_; clear n0_ n1_; (try clear hb); (try clear hb2); (try clear hk); (try clear hi)) | ((with_reducible refine gate_dst (N := 13) rfl ?_); (try (refine gate_guard (by rfl) ?_; dsimp only)); refine box_event ?hg (N := 13) ?hd (cs := #[.string (⟨#[]⟩ : ByteArray), .int .u8 0, .bool false, .int .i64 0, .int .i64 0, .int .i64 0]) (t := 64) ?hr ?_; (case hd => rfl); (case hg => rfl); (case hr => first | (go_simp; done) | (go_simp; rfl)); intro gb897 hg w44 hbox hb; have n0_ := Aside0.mk (blk_below (g := gb874) (o := .cells #[.string a0_0, .int .u8 a0_1, .bool a0_2, .int .i64 a0_3, .int .i64 a0_4, .int .i64 a0_5] 64 (0, 0)) (by (with_reducible repeat (first | refine blk_drewN ?_ _ | refine blk_drew ?_ | refine blk_alloc ?_ _)); exact BK874.out) hb); have n1_ := Aside0.mk (below_step (by repeat (first | (with_reducible first | exact HB.out | apply below_alloc | apply pw_below_drewN | apply below_drew1 | refine below_set ?_ GE874.out) | exact HB.out)) hb); have n2_ := Aside0.mk (hbox); have n3_ := Aside0.mk ((by rw [hg]; exact (below_size (by repeat (first | (with_reducible first | exact HB.out | apply below_alloc | apply pw_below_drewN | apply below_drew1 | refine below_set ?_ GE874.out) | exact HB.out))) : w.heap.size ≤ gb897)); have n4_ := Aside0.mk ((by rw [hg]; exact (below_size (by repeat (first | (with_reducible first | exact HB.out | apply below_alloc | apply pw_below_drewN | apply below_drew1 | refine below_set ?_ GE874.out) | exact HB.out))) : w.heap.size ≤ gb897)); have n5_ := Aside0.mk ((by rw [hg]; exact Nat.ne_of_lt (blk_lt (g := gb874) (o := .cells #[.string a0_0, .int .u8 a0_1, .bool a0_2, .int .i64 a0_3, .int .i64 a0_4, .int .i64 a0_5] 64 (0, 0)) (by (with_reducible repeat (first | refine blk_drewN ?_ _ | refine blk_drew ?_ | refine blk_alloc ?_ _)); exact BK874.out)) : gb874 ≠ gb897)); have n6_ := Aside0.mk ((by rw [hg]; exact Nat.ne_of_gt (blk_lt (g := gb874) (o := .cells #[.string a0_0, .int .u8 a0_1, .bool a0_2, .int .i64 a0_3, .int .i64 a0_4, .int .i64 a0_5] 64 (0, 0)) (by (with_reducible repeat (first | refine blk_drewN ?_ _ | refine blk_drew ?_ | refine blk_alloc ?_ _)); exact BK874.out)) : gb897 ≠ gb874)); clear BK874; clear HB; have BK874 := n0_; have HB := n1_; have BK897 := n2_; have GW897 := n3_; have GE897 := n4_; have NB874_897 := n5_; have NB897_874 := n6_; clear n0_ n1_ n2_ n3_ n4_ n5_ n6_; clear hb hbox hg; have hnb45 := NB897_874.out; have hnc45 := NB874_897.out; have hcz46_0 : w44.cell? ⟨gb897, 0, none⟩ = some (.string (⟨#[]⟩ : ByteArray)) := (blk_cell BK897.out 0).trans rfl; have hcz46_1 : w44.cell? ⟨gb897, 1, none⟩ = some (.int .u8 0) := (blk_cell BK897.out 1).trans rfl; have hcz46_2 : w44.cell? ⟨gb897, 2, none⟩ = some (.bool false) := (blk_cell BK897.out 2).trans rfl; have hcz46_3 : w44.cell? ⟨gb897, 3, none⟩ = some (.int .i64 0) := (blk_cell BK897.out 3).trans rfl; have hcz46_4 : w44.cell? ⟨gb897, 4, none⟩ = some (.int .i64 0) := (blk_cell BK897.out 4).trans rfl; have hcz46_5 : w44.cell? ⟨gb897, 5, none⟩ = some (.int .i64 0) := (blk_cell BK897.out 5).trans rfl; have hfz46_0 := blk_frozen BK897.out 0; have hfz46_1 := blk_frozen BK897.out 1; have hfz46_2 := blk_frozen BK897.out 2; have hfz46_3 := blk_frozen BK897.out 3; have hfz46_4 := blk_frozen BK897.out 4; have hfz46_5 := blk_frozen BK897.out 5))
      go_ret
      exact ⟨by first | rfl | (simp [errW_none, errW_some] <;> rfl) | (simp [*, errW_none, errW_some] <;> rfl), by repeat (first | (with_reducible first | exact HB.out | apply below_alloc | apply pw_below_drewN | apply below_drew1 | refine below_set ?_ GE874.out | refine below_set ?_ GE897.out) | exact HB.out)⟩
     ·
      rw [if_neg c42] at H
      exact absurd H (by simp)
    ·
     replace c41 := Bool.eq_false_iff.mpr c41
     subst c41
     have H1 : (none) = some r := by rw [if_neg (show ¬ (false = true) by decide)] at H; exact H
     clear H
     have H := H1
     clear H1
     exact absurd H (by simp)

/-- THE ONE PURE STATEMENT of quoinlaw10_SymBack: yours. -/
def quoinlaw10_SymBack.Pure : Prop := ∀ (a0_0 : ByteArray) (a0_1 : Int) (a0_2 : Bool) (a0_3 : Int) (a0_4 : Int) (a0_5 : Int) (a1 : Int) (l2 : List Int), a0_0.size ≤ maxLen → (Lit.int .u8 a0_1).wf = true → (Lit.int .i64 a0_3).wf = true → (Lit.int .i64 a0_4).wf = true → (Lit.int .i64 a0_5).wf = true → (Lit.int .i64 a1).wf = true → (l2.length ≤ maxLen ∧ ∀ x0_ ∈ l2, (Lit.int .u8 x0_).wf = true) → ∃ k, quoinlaw10_SymBack.f k a0_0 a0_1 a0_2 a0_3 a0_4 a0_5 a1 l2 = some true
theorem quoinlaw10_SymBack.walk (P : quoinlaw10_SymBack.Pure) (a0_0 : ByteArray) (a0_1 : Int) (a0_2 : Bool) (a0_3 : Int) (a0_4 : Int) (a0_5 : Int) (a1 : Int) (A2 : Option Addr) (c2 : Nat) (l2 : List Int) (w : World) (hr2 : Kd.C (Kd.int .u8) w A2 l2.length l2) (hc2 : l2.length ≤ c2) (w0_0 : a0_0.size ≤ maxLen) (w0_1 : (Lit.int .u8 a0_1).wf = true) (w0_2 : (Lit.int .i64 a0_3).wf = true) (w0_3 : (Lit.int .i64 a0_4).wf = true) (w0_4 : (Lit.int .i64 a0_5).wf = true) (w1_0 : (Lit.int .i64 a1).wf = true) (w2_0 : (l2.length ≤ maxLen ∧ ∀ x0_ ∈ l2, (Lit.int .u8 x0_).wf = true)) :
  Calls Try.prog 23 #[.agg #[.string a0_0, .int .u8 a0_1, .bool a0_2, .int .i64 a0_3, .int .i64 a0_4, .int .i64 a0_5], .int .i64 a1, .slice A2 l2.length c2] w fun e w' => e = .returned (.bool true) ∧ Below w.heap.size w w' := by
 obtain ⟨k, h⟩ := P a0_0 a0_1 a0_2 a0_3 a0_4 a0_5 a1 l2 w0_0 w0_1 w0_2 w0_3 w0_4 w1_0 w2_0
 refine (quoinlaw10_SymBack.calls k a0_0 a0_1 a0_2 a0_3 a0_4 a0_5 a1 A2 c2 l2 true w hr2 hc2 h).mono ?_
 rintro e w' ⟨rfl, hd⟩
 exact ⟨rfl, hd⟩

end Go.Proofs.Ytomabnfeipobnaa.P
