-- Written by pext.py, a program of this session, over the kit's print: a function's contract
import Derived.Test.YtdhkmaiidbomdabPx0
import Derived.Test.YtdhkmaiidbomdabPx2
import Derived.Test.YtdhkmaiidbomdabPx3
namespace Go.Proofs.Ytdhkmaiidbomdab.P
open Go.RowKit Go.Proofs.YtdhkmaiidbomdabW.PrintWords Go.Proofs.YtdhkmaiidbomdabW.PrintLast Go.Proofs.YtdhkmaiidbomdabW.PrintMore
attribute [local go_sem] max2_int min2_int max_two min_two max_three min_three max_four min_four   -- for this text's walks alone
set_option linter.unusedVariables false
set_option linter.unusedSimpArgs false

/-! ### quoinref09_Write: function 5 -/
def quoinref09_Write.f (k : Nat) (a0_0 : Int) (a0_1 : Int) (a0_2 : Int) (a0_3 : Int) (a0_4 : Int) (a0_5 : Int) (a0_6 : Int) (a0_7 : Int) (a0_8 : Int) (a0_9 : Int) : Option (List Int × Int) := (quoinref09_MayHead.f a0_0 a0_1 a0_2 a0_3 a0_4 a0_5 a0_6 a0_7 a0_8 a0_9).bind fun t173 => (if t173 = true then ((quoinref09_Bytes.f k a0_0 a0_1 a0_2 a0_3 a0_4 a0_5 a0_6 a0_7 a0_8 a0_9).bind fun t174 => (some (t174, 0))) else (some (([] : List Int), 2)))
theorem quoinref09_Write.mono : ∀ a0 a1 a2 a3 a4 a5 a6 a7 a8 a9 k, LeO (quoinref09_Write.f k a0 a1 a2 a3 a4 a5 a6 a7 a8 a9) (quoinref09_Write.f (k + 1) a0 a1 a2 a3 a4 a5 a6 a7 a8 a9) := by
 intro a0 a1 a2 a3 a4 a5 a6 a7 a8 a9 k
 unfold quoinref09_Write.f
 repeat' first
   | (with_reducible exact quoinref09_Bytes.mono _ _ _ _ _ _ _ _ _ _ _)
   | (with_reducible exact LeO.refl _)
   | (with_reducible exact LeO.none _)
   | (with_reducible refine LeO.ite ?_ ?_)
   | (with_reducible refine LeO.bind ?_ (fun _ => ?_))
   | exact quoinref09_Bytes.mono _ _ _ _ _ _ _ _ _ _ _
   | exact LeO.none _
   | refine LeO.ite ?_ ?_
   | refine LeO.bind ?_ (fun _ => ?_)
set_option maxHeartbeats 8000000 in
set_option maxRecDepth 100000 in
theorem quoinref09_Write.calls (k : Nat) (a0_0 : Int) (a0_1 : Int) (a0_2 : Int) (a0_3 : Int) (a0_4 : Int) (a0_5 : Int) (a0_6 : Int) (a0_7 : Int) (a0_8 : Int) (a0_9 : Int) (r1 : List Int) (r2 : Int) (w : World) (h : quoinref09_Write.f k a0_0 a0_1 a0_2 a0_3 a0_4 a0_5 a0_6 a0_7 a0_8 a0_9 = some (r1, r2)) :
  Calls Try.prog 5 #[.agg #[.int .i64 a0_0, .int .i64 a0_1, .int .i64 a0_2, .int .i64 a0_3, .int .i64 a0_4, .int .i64 a0_5, .int .i64 a0_6, .int .i64 a0_7, .int .i64 a0_8, .int .i64 a0_9]] w fun e w' => ∃ v0_ : Value, e = .returned (.tuple #[v0_, .int .i64 r2]) ∧ Kd.R (Kd.int .u8) 5 w' w.heap.size (fun _ => True) v0_ r1 ∧ Below w.heap.size w w' := by
 have hu23 := Try.underlying23
 have HB := Aside0.mk (Below.refl w.heap.size w)
 have H : ((quoinref09_MayHead.f a0_0 a0_1 a0_2 a0_3 a0_4 a0_5 a0_6 a0_7 a0_8 a0_9).bind fun t173 => (if t173 = true then ((quoinref09_Bytes.f k a0_0 a0_1 a0_2 a0_3 a0_4 a0_5 a0_6 a0_7 a0_8 a0_9).bind fun t174 => (some (t174, 0))) else (some (([] : List Int), 2)))) = some (r1, r2) := h
 clear h
 replace H := Option.bind_eq_some_iff.mp H
 obtain ⟨t173, A20, H⟩ := H
 replace H : (if t173 = true then ((quoinref09_Bytes.f k a0_0 a0_1 a0_2 a0_3 a0_4 a0_5 a0_6 a0_7 a0_8 a0_9).bind fun t174 => (some (t174, 0))) else (some (([] : List Int), 2))) = some (r1, r2) := H
 have A2 := Aside0.mk A20
 clear A20
 by_cases c3 : t173 = true
 ·
  subst c3
  have H1 : ((quoinref09_Bytes.f k a0_0 a0_1 a0_2 a0_3 a0_4 a0_5 a0_6 a0_7 a0_8 a0_9).bind fun t174 => (some (t174, 0))) = some (r1, r2) := by rw [if_pos rfl] at H; exact H
  clear H
  have H := H1
  clear H1
  replace H := Option.bind_eq_some_iff.mp H
  obtain ⟨t174, A40, H⟩ := H
  replace H : (some (t174, 0)) = some (r1, r2) := H
  have A4 := Aside0.mk A40
  clear A40
  simp only [Option.some.injEq, Prod.mk.injEq] at H
  obtain ⟨rfl, rfl⟩ := H
  go_enter Try.func5, Try.ntmps5
  go_wp2_with (first | ((with_reducible refine gate_dst (N := 1) rfl ?_); refine box_event ?hg (N := 1) ?hd (cs := #[.int .i64 a0_0, .int .i64 a0_1, .int .i64 a0_2, .int .i64 a0_3, .int .i64 a0_4, .int .i64 a0_5, .int .i64 a0_6, .int .i64 a0_7, .int .i64 a0_8, .int .i64 a0_9]) (t := 23) ?hr ?_; (case hd => rfl); (case hg => rfl); (case hr => first | (go_simp; done) | (go_simp; rfl)); intro gb172 hg w5 hbox hb; have n0_ := Aside0.mk (below_step (by repeat (first | (with_reducible first | exact HB.out | apply below_alloc | apply pw_below_drewN | apply below_drew1) | exact HB.out)) hb); have n1_ := Aside0.mk (hbox); have n2_ := Aside0.mk ((by rw [hg]; exact (below_size (by repeat (first | (with_reducible first | exact HB.out | apply below_alloc | apply pw_below_drewN | apply below_drew1) | exact HB.out))) : w.heap.size ≤ gb172)); have n3_ := Aside0.mk ((by rw [hg]; exact (below_size (by repeat (first | (with_reducible first | exact HB.out | apply below_alloc | apply pw_below_drewN | apply below_drew1) | exact HB.out))) : w.heap.size ≤ gb172)); clear HB; have HB := n0_; have BK172 := n1_; have GW172 := n2_; have GE172 := n3_; clear n0_ n1_ n2_ n3_; clear hb hbox hg; have hcz6_0 : w5.cell? ⟨gb172, 0, none⟩ = some (.int .i64 a0_0) := (blk_cell BK172.out 0).trans rfl; have hcz6_1 : w5.cell? ⟨gb172, 1, none⟩ = some (.int .i64 a0_1) := (blk_cell BK172.out 1).trans rfl; have hcz6_2 : w5.cell? ⟨gb172, 2, none⟩ = some (.int .i64 a0_2) := (blk_cell BK172.out 2).trans rfl; have hcz6_3 : w5.cell? ⟨gb172, 3, none⟩ = some (.int .i64 a0_3) := (blk_cell BK172.out 3).trans rfl; have hcz6_4 : w5.cell? ⟨gb172, 4, none⟩ = some (.int .i64 a0_4) := (blk_cell BK172.out 4).trans rfl; have hcz6_5 : w5.cell? ⟨gb172, 5, none⟩ = some (.int .i64 a0_5) := (blk_cell BK172.out 5).trans rfl; have hcz6_6 : w5.cell? ⟨gb172, 6, none⟩ = some (.int .i64 a0_6) := (blk_cell BK172.out 6).trans rfl; have hcz6_7 : w5.cell? ⟨gb172, 7, none⟩ = some (.int .i64 a0_7) := (blk_cell BK172.out 7).trans rfl; have hcz6_8 : w5.cell? ⟨gb172, 8, none⟩ = some (.int .i64 a0_8) := (blk_cell BK172.out 8).trans rfl; have hcz6_9 : w5.cell? ⟨gb172, 9, none⟩ = some (.int .i64 a0_9) := (blk_cell BK172.out 9).trans rfl; have hfz6_0 := blk_frozen BK172.out 0; have hfz6_1 := blk_frozen BK172.out 1; have hfz6_2 := blk_frozen BK172.out 2; have hfz6_3 := blk_frozen BK172.out 3; have hfz6_4 := blk_frozen BK172.out 4; have hfz6_5 := blk_frozen BK172.out 5; have hfz6_6 := blk_frozen BK172.out 6; have hfz6_7 := blk_frozen BK172.out 7; have hfz6_8 := blk_frozen BK172.out 8; have hfz6_9 := blk_frozen BK172.out 9) | ((with_reducible refine gate_callee (f := 10) rfl ?_); refine goesL_ (some 5) rfl rfl Try.func10 (by kernel_rfl) rfl #[.agg #[.int .i64 a0_0, .int .i64 a0_1, .int .i64 a0_2, .int .i64 a0_3, .int .i64 a0_4, .int .i64 a0_5, .int .i64 a0_6, .int .i64 a0_7, .int .i64 a0_8, .int .i64 a0_9]] rfl (by (try simp only [List.map_toArray, List.map_cons, List.map_nil]); first | done | rfl | (simp only [List.length_drop, List.length_take]; rfl)) ?_; (with_reducible refine (quoinref09_MayHead.calls a0_0 a0_1 a0_2 a0_3 a0_4 a0_5 a0_6 a0_7 a0_8 a0_9 true _ A2.out).mono ?_); rintro e w7 ⟨rfl, hb⟩; refine ⟨_, rfl, ?_⟩; have n0_ := Aside0.mk (blk_below (g := gb172) (o := .cells #[.int .i64 a0_0, .int .i64 a0_1, .int .i64 a0_2, .int .i64 a0_3, .int .i64 a0_4, .int .i64 a0_5, .int .i64 a0_6, .int .i64 a0_7, .int .i64 a0_8, .int .i64 a0_9] 23 (0, 0)) (by (with_reducible repeat (first | refine blk_drewN ?_ _ | refine blk_drew ?_ | refine blk_alloc ?_ _)); exact BK172.out) hb); have n1_ := Aside0.mk (below_step (by repeat (first | (with_reducible first | exact HB.out | apply below_alloc | apply pw_below_drewN | apply below_drew1 | refine below_set ?_ GE172.out) | exact HB.out)) hb); clear BK172; clear HB; have BK172 := n0_; have HB := n1_; clear n0_ n1_; (try clear hb); (try clear hb2); (try clear hk); (try clear hi); have hcz8_0 : w7.cell? ⟨gb172, 0, none⟩ = some (.int .i64 a0_0) := (blk_cell BK172.out 0).trans rfl; have hcz8_1 : w7.cell? ⟨gb172, 1, none⟩ = some (.int .i64 a0_1) := (blk_cell BK172.out 1).trans rfl; have hcz8_2 : w7.cell? ⟨gb172, 2, none⟩ = some (.int .i64 a0_2) := (blk_cell BK172.out 2).trans rfl; have hcz8_3 : w7.cell? ⟨gb172, 3, none⟩ = some (.int .i64 a0_3) := (blk_cell BK172.out 3).trans rfl; have hcz8_4 : w7.cell? ⟨gb172, 4, none⟩ = some (.int .i64 a0_4) := (blk_cell BK172.out 4).trans rfl; have hcz8_5 : w7.cell? ⟨gb172, 5, none⟩ = some (.int .i64 a0_5) := (blk_cell BK172.out 5).trans rfl; have hcz8_6 : w7.cell? ⟨gb172, 6, none⟩ = some (.int .i64 a0_6) := (blk_cell BK172.out 6).trans rfl; have hcz8_7 : w7.cell? ⟨gb172, 7, none⟩ = some (.int .i64 a0_7) := (blk_cell BK172.out 7).trans rfl; have hcz8_8 : w7.cell? ⟨gb172, 8, none⟩ = some (.int .i64 a0_8) := (blk_cell BK172.out 8).trans rfl; have hcz8_9 : w7.cell? ⟨gb172, 9, none⟩ = some (.int .i64 a0_9) := (blk_cell BK172.out 9).trans rfl; have hfz8_0 := blk_frozen BK172.out 0; have hfz8_1 := blk_frozen BK172.out 1; have hfz8_2 := blk_frozen BK172.out 2; have hfz8_3 := blk_frozen BK172.out 3; have hfz8_4 := blk_frozen BK172.out 4; have hfz8_5 := blk_frozen BK172.out 5; have hfz8_6 := blk_frozen BK172.out 6; have hfz8_7 := blk_frozen BK172.out 7; have hfz8_8 := blk_frozen BK172.out 8; have hfz8_9 := blk_frozen BK172.out 9) | ((with_reducible refine gate_callee (f := 11) rfl ?_); refine goesL_ (some 8) rfl rfl Try.func11 (by kernel_rfl) rfl #[.agg #[.int .i64 a0_0, .int .i64 a0_1, .int .i64 a0_2, .int .i64 a0_3, .int .i64 a0_4, .int .i64 a0_5, .int .i64 a0_6, .int .i64 a0_7, .int .i64 a0_8, .int .i64 a0_9]] rfl (by (try simp only [List.map_toArray, List.map_cons, List.map_nil]); first | done | rfl | (simp only [List.length_drop, List.length_take]; rfl)) ?_; (with_reducible refine (quoinref09_Bytes.calls k a0_0 a0_1 a0_2 a0_3 a0_4 a0_5 a0_6 a0_7 a0_8 a0_9 t174 _ A4.out).mono ?_); rintro e w9 ⟨v175, rfl, ho0, hb⟩; refine ⟨_, rfl, ?_⟩; have n0_ := Aside0.mk (Kd.R_lower ho0 (below_size (by repeat (first | (with_reducible first | exact HB.out | apply below_alloc | apply pw_below_drewN | apply below_drew1 | refine below_set ?_ GE172.out) | exact HB.out)))); have n1_ := Aside0.mk (blk_below (g := gb172) (o := .cells #[.int .i64 a0_0, .int .i64 a0_1, .int .i64 a0_2, .int .i64 a0_3, .int .i64 a0_4, .int .i64 a0_5, .int .i64 a0_6, .int .i64 a0_7, .int .i64 a0_8, .int .i64 a0_9] 23 (0, 0)) (by (with_reducible repeat (first | refine blk_drewN ?_ _ | refine blk_drew ?_ | refine blk_alloc ?_ _)); exact BK172.out) hb); have n2_ := Aside0.mk (below_step (by repeat (first | (with_reducible first | exact HB.out | apply below_alloc | apply pw_below_drewN | apply below_drew1 | refine below_set ?_ GE172.out) | exact HB.out)) hb); clear BK172; clear HB; have HO176 := n0_; have BK172 := n1_; have HB := n2_; clear n0_ n1_ n2_; (try clear hb); (try clear hb2); (try clear hk); (try clear hi); (try clear ho0)))
  go_ret2
  exact ⟨_, by first | rfl | (simp [errW_none, errW_some] <;> rfl) | (simp [*, errW_none, errW_some] <;> rfl), by (with_reducible repeat (first | apply Kd.R_alloc | apply Kd.R_drewN | apply Kd.R_drew)); exact HO176.out, by repeat (first | (with_reducible first | exact HB.out | apply below_alloc | apply pw_below_drewN | apply below_drew1 | refine below_set ?_ GE172.out) | exact HB.out)⟩
 ·
  replace c3 := Bool.eq_false_iff.mpr c3
  subst c3
  have H1 : (some (([] : List Int), 2)) = some (r1, r2) := by rw [if_neg (show ¬ (false = true) by decide)] at H; exact H
  clear H
  have H := H1
  clear H1
  simp only [Option.some.injEq, Prod.mk.injEq] at H
  obtain ⟨rfl, rfl⟩ := H
  go_enter Try.func5, Try.ntmps5
  go_wp2_with (first | ((with_reducible refine gate_dst (N := 1) rfl ?_); refine box_event ?hg (N := 1) ?hd (cs := #[.int .i64 a0_0, .int .i64 a0_1, .int .i64 a0_2, .int .i64 a0_3, .int .i64 a0_4, .int .i64 a0_5, .int .i64 a0_6, .int .i64 a0_7, .int .i64 a0_8, .int .i64 a0_9]) (t := 23) ?hr ?_; (case hd => rfl); (case hg => rfl); (case hr => first | (go_simp; done) | (go_simp; rfl)); intro gb172 hg w10 hbox hb; have n0_ := Aside0.mk (below_step (by repeat (first | (with_reducible first | exact HB.out | apply below_alloc | apply pw_below_drewN | apply below_drew1) | exact HB.out)) hb); have n1_ := Aside0.mk (hbox); have n2_ := Aside0.mk ((by rw [hg]; exact (below_size (by repeat (first | (with_reducible first | exact HB.out | apply below_alloc | apply pw_below_drewN | apply below_drew1) | exact HB.out))) : w.heap.size ≤ gb172)); have n3_ := Aside0.mk ((by rw [hg]; exact (below_size (by repeat (first | (with_reducible first | exact HB.out | apply below_alloc | apply pw_below_drewN | apply below_drew1) | exact HB.out))) : w.heap.size ≤ gb172)); clear HB; have HB := n0_; have BK172 := n1_; have GW172 := n2_; have GE172 := n3_; clear n0_ n1_ n2_ n3_; clear hb hbox hg; have hcz11_0 : w10.cell? ⟨gb172, 0, none⟩ = some (.int .i64 a0_0) := (blk_cell BK172.out 0).trans rfl; have hcz11_1 : w10.cell? ⟨gb172, 1, none⟩ = some (.int .i64 a0_1) := (blk_cell BK172.out 1).trans rfl; have hcz11_2 : w10.cell? ⟨gb172, 2, none⟩ = some (.int .i64 a0_2) := (blk_cell BK172.out 2).trans rfl; have hcz11_3 : w10.cell? ⟨gb172, 3, none⟩ = some (.int .i64 a0_3) := (blk_cell BK172.out 3).trans rfl; have hcz11_4 : w10.cell? ⟨gb172, 4, none⟩ = some (.int .i64 a0_4) := (blk_cell BK172.out 4).trans rfl; have hcz11_5 : w10.cell? ⟨gb172, 5, none⟩ = some (.int .i64 a0_5) := (blk_cell BK172.out 5).trans rfl; have hcz11_6 : w10.cell? ⟨gb172, 6, none⟩ = some (.int .i64 a0_6) := (blk_cell BK172.out 6).trans rfl; have hcz11_7 : w10.cell? ⟨gb172, 7, none⟩ = some (.int .i64 a0_7) := (blk_cell BK172.out 7).trans rfl; have hcz11_8 : w10.cell? ⟨gb172, 8, none⟩ = some (.int .i64 a0_8) := (blk_cell BK172.out 8).trans rfl; have hcz11_9 : w10.cell? ⟨gb172, 9, none⟩ = some (.int .i64 a0_9) := (blk_cell BK172.out 9).trans rfl; have hfz11_0 := blk_frozen BK172.out 0; have hfz11_1 := blk_frozen BK172.out 1; have hfz11_2 := blk_frozen BK172.out 2; have hfz11_3 := blk_frozen BK172.out 3; have hfz11_4 := blk_frozen BK172.out 4; have hfz11_5 := blk_frozen BK172.out 5; have hfz11_6 := blk_frozen BK172.out 6; have hfz11_7 := blk_frozen BK172.out 7; have hfz11_8 := blk_frozen BK172.out 8; have hfz11_9 := blk_frozen BK172.out 9) | ((with_reducible refine gate_callee (f := 10) rfl ?_); refine goesL_ (some 5) rfl rfl Try.func10 (by kernel_rfl) rfl #[.agg #[.int .i64 a0_0, .int .i64 a0_1, .int .i64 a0_2, .int .i64 a0_3, .int .i64 a0_4, .int .i64 a0_5, .int .i64 a0_6, .int .i64 a0_7, .int .i64 a0_8, .int .i64 a0_9]] rfl (by (try simp only [List.map_toArray, List.map_cons, List.map_nil]); first | done | rfl | (simp only [List.length_drop, List.length_take]; rfl)) ?_; (with_reducible refine (quoinref09_MayHead.calls a0_0 a0_1 a0_2 a0_3 a0_4 a0_5 a0_6 a0_7 a0_8 a0_9 false _ A2.out).mono ?_); rintro e w12 ⟨rfl, hb⟩; refine ⟨_, rfl, ?_⟩; have n0_ := Aside0.mk (blk_below (g := gb172) (o := .cells #[.int .i64 a0_0, .int .i64 a0_1, .int .i64 a0_2, .int .i64 a0_3, .int .i64 a0_4, .int .i64 a0_5, .int .i64 a0_6, .int .i64 a0_7, .int .i64 a0_8, .int .i64 a0_9] 23 (0, 0)) (by (with_reducible repeat (first | refine blk_drewN ?_ _ | refine blk_drew ?_ | refine blk_alloc ?_ _)); exact BK172.out) hb); have n1_ := Aside0.mk (below_step (by repeat (first | (with_reducible first | exact HB.out | apply below_alloc | apply pw_below_drewN | apply below_drew1 | refine below_set ?_ GE172.out) | exact HB.out)) hb); clear BK172; clear HB; have BK172 := n0_; have HB := n1_; clear n0_ n1_; (try clear hb); (try clear hb2); (try clear hk); (try clear hi)))
  go_ret2
  exact ⟨_, by first | rfl | (simp [errW_none, errW_some] <;> rfl) | (simp [*, errW_none, errW_some] <;> rfl), by first | exact Kd.R_nil _ _ _ _ _ | exact Kd.N_nil _ _ _ _ _ | exact Kd.V_nil _ _ _ _ _ | exact Kd.Q_nil _ _ _ _ _ | exact Kd.S_nil _ _ _ _ _, by repeat (first | (with_reducible first | exact HB.out | apply below_alloc | apply pw_below_drewN | apply below_drew1 | refine below_set ?_ GE172.out) | exact HB.out)⟩

/-! ### le_Get: function 12 -/
mutual
def le_Get.j0 : Nat → List Int → Int → Int → Bool → Option (Int × Int)
 | 0, _, _, _, _ => none
 | k + 1, x0, x1, x2, x23 => if x23 = true then (some (0, 8)) else (if 0 ≤ x1 then (if x1 ≤ (wrap64 (x1 + x2)) then (if (wrap64 (x1 + x2)) ≤ (x0.length : Int) then ((some ((x0.take ((wrap64 (x1 + x2)) : Int).toNat).drop (x1 : Int).toNat : List Int)).bind fun y178 => (le_Get.l0 k 0 y178 (y178.length : Int) 0)) else (none)) else (none)) else (none))
def le_Get.l0 : Nat → Int → List Int → Int → Int → Option (Int × Int)
 | 0, _, _, _, _ => none
 | k + 1, x8, x29, x30, x31 => if x31 < x30 then (if 0 ≤ x31 then (if x31 < (x29.length : Int) then (if 0 ≤ (wrap64 (8 * x31)) then (le_Get.l0 k (Go.bits .or .u64 x8 (shl .u64 (IntKind.u64.wrap (rd x29 x31)) (wrap64 (8 * x31)))) x29 x30 (wrap64 (x31 + 1))) else (none)) else (none)) else (none)) else (some (wrap64 (x8), 0))
end
def le_Get.f (k : Nat) (l0 : List Int) (a1 : Int) (a2 : Int) : Option (Int × Int) := (le_sizes.f a2).bind fun t177 => (if t177 = true then (if a1 < 0 then (le_Get.j0 k l0 a1 a2 true) else (le_Get.j0 k l0 a1 a2 (decide (a1 > (wrap64 ((l0.length : Int) - a2)))))) else (some (0, 2)))
theorem le_Get.mono_l : ∀ k, (∀ y0 y1 y2 y3, LeO (le_Get.j0 k y0 y1 y2 y3) (le_Get.j0 (k + 1) y0 y1 y2 y3)) ∧ (∀ y0 y1 y2 y3, LeO (le_Get.l0 k y0 y1 y2 y3) (le_Get.l0 (k + 1) y0 y1 y2 y3))
 | 0 => ⟨fun _ _ _ _ r h => by simp [le_Get.j0] at h, fun _ _ _ _ r h => by simp [le_Get.l0] at h⟩
 | k + 1 => by
  obtain ⟨ih0, ih1⟩ := le_Get.mono_l k
  refine ⟨?_, ?_⟩
  ·
   intro y0 y1 y2 y3
   unfold le_Get.j0
   repeat' first
   | (with_reducible exact ih0 _ _ _ _)
   | (with_reducible exact ih1 _ _ _ _)
   | (with_reducible exact LeO.refl _)
   | (with_reducible exact LeO.none _)
   | (with_reducible refine LeO.ite ?_ ?_)
   | (with_reducible refine LeO.bind ?_ (fun _ => ?_))
   | exact ih0 _ _ _ _
   | exact ih1 _ _ _ _
   | exact LeO.none _
   | refine LeO.ite ?_ ?_
   | refine LeO.bind ?_ (fun _ => ?_)
  ·
   intro y0 y1 y2 y3
   unfold le_Get.l0
   repeat' first
   | (with_reducible exact ih0 _ _ _ _)
   | (with_reducible exact ih1 _ _ _ _)
   | (with_reducible exact LeO.refl _)
   | (with_reducible exact LeO.none _)
   | (with_reducible refine LeO.ite ?_ ?_)
   | (with_reducible refine LeO.bind ?_ (fun _ => ?_))
   | exact ih0 _ _ _ _
   | exact ih1 _ _ _ _
   | exact LeO.none _
   | refine LeO.ite ?_ ?_
   | refine LeO.bind ?_ (fun _ => ?_)
theorem le_Get.mono : ∀ a0 a1 a2 k, LeO (le_Get.f k a0 a1 a2) (le_Get.f (k + 1) a0 a1 a2) := by
 intro a0 a1 a2 k
 obtain ⟨ih0, ih1⟩ := le_Get.mono_l k
 unfold le_Get.f
 repeat' first
   | (with_reducible exact ih0 _ _ _ _)
   | (with_reducible exact ih1 _ _ _ _)
   | (with_reducible exact LeO.refl _)
   | (with_reducible exact LeO.none _)
   | (with_reducible refine LeO.ite ?_ ?_)
   | (with_reducible refine LeO.bind ?_ (fun _ => ?_))
   | exact ih0 _ _ _ _
   | exact ih1 _ _ _ _
   | exact LeO.none _
   | refine LeO.ite ?_ ?_
   | refine LeO.bind ?_ (fun _ => ?_)
set_option maxHeartbeats 8000000 in
set_option maxRecDepth 100000 in
theorem le_Get.calls (k : Nat) (A0 : Option Addr) (c0 : Nat) (l0 : List Int) (a1 : Int) (a2 : Int) (r1 : Int) (r2 : Int) (w : World) (hr0 : Kd.C (Kd.int .u8) w A0 l0.length l0) (hc0 : l0.length ≤ c0) (h : le_Get.f k l0 a1 a2 = some (r1, r2)) :
  Calls Try.prog 12 #[.slice A0 l0.length c0, .int .i64 a1, .int .i64 a2] w fun e w' => e = .returned (.tuple #[.int .i64 r1, .int .i64 r2]) ∧ Drawn0 w w' := by
 have HR0 := Aside0.mk hr0
 have HC0 := Aside0.mk hc0
 clear hr0 hc0
 have H : ((le_sizes.f a2).bind fun t177 => (if t177 = true then (if a1 < 0 then (le_Get.j0 k l0 a1 a2 true) else (le_Get.j0 k l0 a1 a2 (decide (a1 > (wrap64 ((l0.length : Int) - a2)))))) else (some (0, 2)))) = some (r1, r2) := h
 clear h
 replace H := Option.bind_eq_some_iff.mp H
 obtain ⟨t177, A40, H⟩ := H
 replace H : (if t177 = true then (if a1 < 0 then (le_Get.j0 k l0 a1 a2 true) else (le_Get.j0 k l0 a1 a2 (decide (a1 > (wrap64 ((l0.length : Int) - a2)))))) else (some (0, 2))) = some (r1, r2) := H
 have A4 := Aside0.mk A40
 clear A40
 by_cases c5 : t177 = true
 ·
  subst c5
  have H1 : (if a1 < 0 then (le_Get.j0 k l0 a1 a2 true) else (le_Get.j0 k l0 a1 a2 (decide (a1 > (wrap64 ((l0.length : Int) - a2)))))) = some (r1, r2) := by rw [if_pos rfl] at H; exact H
  clear H
  have H := H1
  clear H1
  have HC6 := Aside0.mk H
  clear H
  go_enter Try.func12, Try.ntmps12
  go_upto_region 3 with (first | ((with_reducible refine gate_callee (f := 14) rfl ?_); refine goesL_ (some 12) rfl rfl Try.func14 (by kernel_rfl) rfl #[.int .i64 a2] rfl (by (try simp only [List.map_toArray, List.map_cons, List.map_nil]); first | done | rfl | (simp only [List.length_drop, List.length_take]; rfl)) ?_; (with_reducible refine (le_sizes.calls a2 true _ A4.out).mono ?_); rintro e w' ⟨rfl, ⟨nd, rfl⟩⟩; refine ⟨_, rfl, ?_⟩))
  (try simp only [Act.put, List.setIfInBounds_toArray, List.set_cons_zero, List.set_cons_succ])
  go_cut [23] (fun v23 wc => ∃ (kq : Nat) (x23_5 : Bool), v23 = .bool x23_5 ∧ Aside0 (le_Get.j0 kq l0 a1 a2 x23_5 = some (r1, r2)) ∧ Aside0 (kq ≤ k) ∧ Drawn0 w wc)
  case first =>
   have H := HC6.out
   clear HC6
   by_cases c7 : a1 < 0
   ·
    rw [if_pos c7] at H
    have c7b0 : decide (a1 < 0) = true := decide_eq_true c7
    clear c7
    (first | rw [c7b0] | (simp only [i64_w, i32_w]; rw [c7b0]) | skip)
    have H' := Aside0.mk H
    clear H
    go_wp2
    go_meet
    case rel => exact ⟨_, (true), (by first | rfl | (simp; done) | (simp [*]; done)), H', ⟨by first | omega | exact Nat.le_refl _⟩, by repeat (first | exact Drawn0.refl _ | apply Drawn0.step)⟩
   ·
    rw [if_neg c7] at H
    have c7b0 : decide (a1 < 0) = false := decide_eq_false c7
    clear c7
    (first | rw [c7b0] | (simp only [i64_w, i32_w]; rw [c7b0]) | skip)
    have H' := Aside0.mk H
    clear H
    go_wp2
    go_meet
    case rel => exact ⟨_, (decide (a1 > (wrap64 ((l0.length : Int) - a2)))), (by first | rfl | (simp; done) | (simp [*]; done)), H', ⟨by first | omega | exact Nat.le_refl _⟩, by repeat (first | exact Drawn0.refl _ | apply Drawn0.step)⟩
  case rest =>
   clear HC6
   try clear c1
   try clear p2
   try clear c5
   try clear p6
   try clear c7
   try clear c7b0
   obtain ⟨kq, x23_5, rfl, HA, HJ5, ⟨mc5, rfl⟩⟩ := hcut
   cases kq with
   | zero => exact absurd HA.out (by simp [le_Get.j0])
   | succ kj5 =>
    have H := HA.out
    clear HA
    simp only [le_Get.j0] at H
    by_cases c8 : x23_5 = true
    ·
     subst c8
     have H1 : (some (0, 8)) = some (r1, r2) := by rw [if_pos rfl] at H; exact H
     clear H
     have H := H1
     clear H1
     simp only [Option.some.injEq, Prod.mk.injEq] at H
     obtain ⟨rfl, rfl⟩ := H
     go_wp2
     go_ret2
     exact ⟨by first | rfl | (simp; done) | (simp [*]; done), by repeat (first | exact Drawn0.refl _ | apply Drawn0.step)⟩
    ·
     replace c8 := Bool.eq_false_iff.mpr c8
     subst c8
     have H1 : (if 0 ≤ a1 then (if a1 ≤ (wrap64 (a1 + a2)) then (if (wrap64 (a1 + a2)) ≤ (l0.length : Int) then ((some ((l0.take ((wrap64 (a1 + a2)) : Int).toNat).drop (a1 : Int).toNat : List Int)).bind fun y178 => (le_Get.l0 kj5 0 y178 (y178.length : Int) 0)) else (none)) else (none)) else (none)) = some (r1, r2) := by rw [if_neg (show ¬ (false = true) by decide)] at H; exact H
     clear H
     have H := H1
     clear H1
     by_cases c9 : 0 ≤ a1
     ·
      rw [if_pos c9] at H
      have c9b0 := eq_true c9
      have c9b1 : decide (0 ≤ a1) = true := decide_eq_true c9
      clear c9
      by_cases c10 : a1 ≤ (wrap64 (a1 + a2))
      ·
       rw [if_pos c10] at H
       have c10b0 := eq_true c10
       have c10b1 : decide (a1 ≤ (wrap64 (a1 + a2))) = true := decide_eq_true c10
       by_cases c11 : (wrap64 (a1 + a2)) ≤ (l0.length : Int)
       ·
        rw [if_pos c11] at H
        have c11b0 := eq_true c11
        have c11b1 : decide ((wrap64 (a1 + a2)) ≤ (l0.length : Int)) = true := decide_eq_true c11
        obtain ⟨y178, hy178⟩ : ∃ y_ : List Int, y_ = ((l0.take ((wrap64 (a1 + a2)) : Int).toNat).drop (a1 : Int).toNat) := ⟨_, rfl⟩
        replace H : (le_Get.l0 kj5 0 y178 (y178.length : Int) 0) = some (r1, r2) := by first | (rw [hy178]; with_reducible exact H) | (have H2_ := (Option.bind_some _ _).symm.trans H; rw [hy178]; with_reducible exact H2_) | (have H2_ := (Option.bind_some _ _).symm.trans H; with_reducible exact H2_) | with_reducible exact H | (rw [hy178]; exact H) | exact H
        have Ny178 := Aside0.mk hy178
        clear hy178
        have H' := Aside0.mk H
        clear H
        have q12 : ((wrap64 (a1 + a2)) : Int) ≤ ((l0.length : Int) : Int) := of_decide_eq_true (by first | (with_reducible assumption) | assumption)
        obtain ⟨i012, hi012, _, hsz12, _⟩ := info_parts info5
        have hroom12 : l0.length ≤ c0 := HC0.out
        have hC12 : Kd.C (Kd.int .u8) _ A0 l0.length l0 := HR0.out
        have ql12 : (a1 : Int) ≤ ((wrap64 (a1 + a2)) : Int) := of_decide_eq_true (by first | (with_reducible assumption) | assumption)
        have q012 : (0 : Int) ≤ (a1 : Int) := of_decide_eq_true (by first | (with_reducible assumption) | assumption)
        have hcut12 := cut_mid (P := Try.prog) 24 5 .i64 .i64 Try.underlying24 hi012 1 hsz12 A0 l0.length c0 a1 (wrap64 (a1 + a2)) q012 ql12 q12 hroom12
        have hr12 := Kd.C_mid (lo := (a1 : Int).toNat) (hi := ((wrap64 (a1 + a2)) : Int).toNat) (c := c0) hC12 (by omega) (by omega) hroom12
        obtain ⟨A12, hA12⟩ : ∃ A1, A1 = (if c0 = (a1 : Int).toNat then A0 else (A0 : Option Addr).map (·.add ((a1 : Int).toNat * 1))) := ⟨_, rfl⟩
        obtain ⟨c12, hc12⟩ : ∃ c1, c1 = c0 - (a1 : Int).toNat := ⟨_, rfl⟩
        have hy12 : y178.length = ((wrap64 (a1 + a2)) : Int).toNat - (a1 : Int).toNat := (by rw [Ny178.out, List.length_drop, List.length_take] <;> omega)
        rw [show ((l0).take ((wrap64 (a1 + a2)) : Int).toNat).drop (a1 : Int).toNat = y178 from Ny178.out.symm] at hr12
        replace hr12 : Kd.C (Kd.int .u8) _ A12 y178.length y178 := (by rw [hA12]; exact hr12)
        rw [← hy12, ← hA12, ← hc12] at hcut12
        have HR181 := Aside0.mk hr12
        have HC181 := Aside0.mk (show y178.length ≤ c12 from by rw [hy12, hc12]; exact Nat.sub_le_sub_right (Nat.le_trans (by omega) hroom12) _)
        clear hr12 hC12 hroom12 hi012 hsz12 hc12
        have KY12 := Aside0.mk hy12
        have KA12 := Aside0.mk hA12
        clear hy12 hA12
        replace q12 := eq_true q12
        go_wp2
        go_loopg [8, 31] kj5 (fun kq v8 v31 w' => ∃ (x8_2 : Int) (x31_2 : Int), v8 = .int .u64 x8_2 ∧ v31 = .int .i64 x31_2 ∧ Aside0 (le_Get.l0 kq x8_2 y178 (y178.length : Int) x31_2 = some (r1, r2)) ∧ Aside0 (kq ≤ kj5) ∧ Drawn0 w w')
        case atStart => exact ⟨(0), (0), (by first | rfl | (simp; done) | (simp [*]; done)), (by first | rfl | (simp; done) | (simp [*]; done)), H', ⟨Nat.le_refl _⟩, by repeat (first | exact Drawn0.refl _ | apply Drawn0.step)⟩
        case round =>
         clear H'
         try clear c1
         try clear q1
         try clear p2
         try clear c5
         try clear p6
         try clear c7
         try clear c7b0
         try clear c8
         try clear c9
         try clear c9b0
         try clear c9b1
         try clear c10
         try clear c10b0
         try clear c10b1
         try clear c11
         try clear c11b0
         try clear c11b1
         try clear c12
         try clear q12
         try clear p2
         try clear p6
         try clear q012
         try clear q12
         obtain ⟨x8_2, x31_2, rfl, rfl, HA, HK2, ⟨m2, rfl⟩⟩ := hrel
         cases gk with
         | zero => exact absurd HA.out (by simp [le_Get.l0])
         | succ k2 =>
          have H := HA.out
          clear HA
          simp only [le_Get.l0] at H
          by_cases c13 : x31_2 < (y178.length : Int)
          ·
           rw [if_pos c13] at H
           have c13b0 : decide (x31_2 < (y178.length : Int)) = true := decide_eq_true c13
           clear c13
           by_cases c14 : 0 ≤ x31_2
           ·
            rw [if_pos c14] at H
            have c14b0 : decide (0 ≤ x31_2) = true := decide_eq_true c14
            clear c14
            by_cases c15 : x31_2 < (y178.length : Int)
            ·
             rw [if_pos c15] at H
             have c15b0 : decide (x31_2 < (y178.length : Int)) = true := decide_eq_true c15
             clear c15
             obtain ⟨ji16, hji16⟩ : ∃ j_ : Int, (wrap64 (8 * x31_2)) = j_ := ⟨_, rfl⟩
             replace H : (if 0 ≤ (ji16) then (le_Get.l0 k2 (Go.bits .or .u64 x8_2 (shl .u64 (IntKind.u64.wrap (rd y178 x31_2)) (ji16))) y178 (y178.length : Int) (wrap64 (x31_2 + 1))) else (none)) = some (r1, r2) := by first | (rw [hji16] at H; exact H) | (simp only [hji16] at H ⊢; exact H)
             have hji16w : (IntKind.i64.wrap (8 * x31_2)) = ji16 := (i64_w _).trans hji16
             by_cases c17 : 0 ≤ (ji16)
             ·
              rw [if_pos c17] at H
              have c17b0 := eq_true c17
              have c17b1 : decide (0 ≤ (ji16)) = true := decide_eq_true c17
              clear c17
              obtain ⟨ji18, hji18⟩ : ∃ j_ : Int, (shl .u64 (IntKind.u64.wrap (rd y178 x31_2)) (ji16)) = j_ := ⟨_, rfl⟩
              replace H : (le_Get.l0 k2 (Go.bits .or .u64 x8_2 (ji18)) y178 (y178.length : Int) (wrap64 (x31_2 + 1))) = some (r1, r2) := by first | (rw [hji18] at H; exact H) | (simp only [hji18] at H ⊢; exact H)
              have hji18_ : (IntKind.u64.wrap ((IntKind.u64.wrap (rd y178 x31_2)) * 2 ^ min (ji16).toNat 64)) = ji18 := hji18
              have hji18z : (ji16) ≤ 64 → (IntKind.u64.wrap ((IntKind.u64.wrap (rd y178 x31_2)) * 2 ^ (ji16).toNat)) = ji18 := shl_small hji18
              have H' := Aside0.mk H
              clear H
              have p182 : 0 ≤ (x31_2 : Int) := of_decide_eq_true (by first | (with_reducible assumption) | assumption)
              have q182 : x31_2 < (y178.length : Int) := of_decide_eq_true (by first | (with_reducible assumption) | assumption)
              obtain ⟨ad182, e182, hx182_0⟩ := Kd.at_int HR181.out x31_2 p182 q182
              cases e182
              replace p182 := eq_true p182
              replace q182 := eq_true q182
              go_wp2
              go_roundg k2
              case measure => have := HJ5.out; have := HK2.out; omega
              case rel => exact ⟨(Go.bits .or .u64 x8_2 (ji18)), (wrap64 (x31_2 + 1)), (by first | rfl | (simp; done) | (simp only [← hji18] <;> (first | rfl | simp)) | (simp [*]; done)), (by first | rfl | (simp; done) | (simp [*]; done)), H', ⟨by have := HJ5.out; have := HK2.out; omega⟩, by repeat (first | exact Drawn0.refl _ | apply Drawn0.step)⟩
             ·
              rw [if_neg c17] at H
              exact absurd H (by simp)
            ·
             rw [if_neg c15] at H
             exact absurd H (by simp)
           ·
            rw [if_neg c14] at H
            exact absurd H (by simp)
          ·
           rw [if_neg c13] at H
           have c13b0 : decide (x31_2 < (y178.length : Int)) = false := decide_eq_false c13
           clear c13
           simp only [Option.some.injEq, Prod.mk.injEq] at H
           obtain ⟨rfl, rfl⟩ := H
           go_wp2
           go_ret2
           exact ⟨by first | rfl | (simp; done) | (simp [*]; done), by repeat (first | exact Drawn0.refl _ | apply Drawn0.step)⟩
       ·
        rw [if_neg c11] at H
        exact absurd H (by simp)
      ·
       rw [if_neg c10] at H
       exact absurd H (by simp)
     ·
      rw [if_neg c9] at H
      exact absurd H (by simp)
 ·
  replace c5 := Bool.eq_false_iff.mpr c5
  subst c5
  have H1 : (some (0, 2)) = some (r1, r2) := by rw [if_neg (show ¬ (false = true) by decide)] at H; exact H
  clear H
  have H := H1
  clear H1
  simp only [Option.some.injEq, Prod.mk.injEq] at H
  obtain ⟨rfl, rfl⟩ := H
  go_enter Try.func12, Try.ntmps12
  go_wp2_with (first | ((with_reducible refine gate_callee (f := 14) rfl ?_); refine goesL_ (some 12) rfl rfl Try.func14 (by kernel_rfl) rfl #[.int .i64 a2] rfl (by (try simp only [List.map_toArray, List.map_cons, List.map_nil]); first | done | rfl | (simp only [List.length_drop, List.length_take]; rfl)) ?_; (with_reducible refine (le_sizes.calls a2 false _ A4.out).mono ?_); rintro e w' ⟨rfl, ⟨nd, rfl⟩⟩; refine ⟨_, rfl, ?_⟩))
  go_ret2
  exact ⟨by first | rfl | (simp; done) | (simp [*]; done), by repeat (first | exact Drawn0.refl _ | apply Drawn0.step)⟩


/-! ### sect_Read: function 6 -/
abbrev sect_Read.fieldCells (g : Nat) : Array Value := #[.pointer (some ⟨g, 0, none⟩), .int .i64 4, .pointer (some ⟨g, 1, none⟩), .int .i64 4, .pointer (some ⟨g, 2, none⟩), .int .i64 8, .pointer (some ⟨g, 3, none⟩), .int .i64 8, .pointer (some ⟨g, 4, none⟩), .int .i64 8, .pointer (some ⟨g, 5, none⟩), .int .i64 8, .pointer (some ⟨g, 6, none⟩), .int .i64 4, .pointer (some ⟨g, 7, none⟩), .int .i64 4, .pointer (some ⟨g, 8, none⟩), .int .i64 8, .pointer (some ⟨g, 9, none⟩), .int .i64 8]
set_option maxHeartbeats 4000000 in
set_option maxRecDepth 1000000 in
theorem sect_Read.fields_calls (g : Nat) (w : World) : Calls Try.prog 8 #[.pointer (some ⟨g, 0, none⟩)] w fun e w' =>
    e = .returned (.slice (some ⟨w.heap.size, 0, none⟩) 10 10) ∧ w' = w.drew.alloc (.cells (sect_Read.fieldCells g) 40) := by
  go_enter Try.func8, Try.ntmps8
  go_wp2
  go_still_tail 40, (by kernel_rfl)
  change wpList _ _ _ _ _ w.drew
  go_wp2
  go_ret
  exact ⟨rfl, rfl⟩
abbrev sect_Read.accCells (acc : List Int) : Array Value := #[.int .i64 (acc.getD 0 0), .int .i64 (acc.getD 1 0), .int .i64 (acc.getD 2 0), .int .i64 (acc.getD 3 0), .int .i64 (acc.getD 4 0), .int .i64 (acc.getD 5 0), .int .i64 (acc.getD 6 0), .int .i64 (acc.getD 7 0), .int .i64 (acc.getD 8 0), .int .i64 (acc.getD 9 0)]
theorem sect_Read.accCells_set (acc : List Int) (q : Int) (h : acc.length < 10) : (sect_Read.accCells acc).setIfInBounds acc.length (.int .i64 q) = sect_Read.accCells (acc ++ [q]) := by
  have e : ∀ i : Nat, (acc ++ [q]).getD i 0 = if i = acc.length then q else acc.getD i 0 := by
    intro i
    simp only [List.getD_eq_getElem?_getD, List.getElem?_append]
    by_cases h1 : i < acc.length
    · rw [if_pos h1, if_neg (by omega)]
    · rw [if_neg h1]
      by_cases h2 : i = acc.length
      · subst h2; simp
      · rw [if_neg h2]
        have : i - acc.length ≠ 0 := by omega
        rw [show acc[i]? = none from List.getElem?_eq_none (by omega)]
        obtain ⟨m, hm⟩ : ∃ m, i - acc.length = m + 1 := ⟨i - acc.length - 1, by omega⟩
        rw [hm]; rfl
  generalize acc.length = n at h e
  unfold sect_Read.accCells
  simp only [e]
  rcases (show n = 0 ∨ n = 1 ∨ n = 2 ∨ n = 3 ∨ n = 4 ∨ n = 5 ∨ n = 6 ∨ n = 7 ∨ n = 8 ∨ n = 9 by omega) with rfl | rfl | rfl | rfl | rfl | rfl | rfl | rfl | rfl | rfl <;> rfl
def sect_Read.go (k : Nat) (l0 : List Int) : List Int → Int → List Int → Option (List Int × Int)
  | [], _, acc => some (acc, 0)
  | s :: l, x, acc => (le_Get.f k l0 x s).bind fun q => if q.2 = 0 then (if q.1 < 0 then some ([], 8) else sect_Read.go k l0 l (wrap64 (x + s)) (acc ++ [q.1])) else some ([], 8)
def sect_Read.f (k : Nat) (l0 : List Int) : Option (Int × Int × Int × Int × Int × Int × Int × Int × Int × Int × Int) := if (l0.length : Int) = 64 then (sect_Read.go k l0 [4, 4, 8, 8, 8, 8, 4, 4, 8, 8] 0 []).map fun q => (q.1.getD 0 0, q.1.getD 1 0, q.1.getD 2 0, q.1.getD 3 0, q.1.getD 4 0, q.1.getD 5 0, q.1.getD 6 0, q.1.getD 7 0, q.1.getD 8 0, q.1.getD 9 0, q.2) else some (0, 0, 0, 0, 0, 0, 0, 0, 0, 0, 3)
theorem sect_Read.go_mono (k : Nat) (l0 : List Int) : ∀ (l : List Int) (x : Int) (acc : List Int), LeO (sect_Read.go k l0 l x acc) (sect_Read.go (k + 1) l0 l x acc)
  | [], _, _ => LeO.refl _
  | s :: l, x, acc => by
    unfold sect_Read.go
    refine LeO.bind (le_Get.mono _ _ _ _) (fun q => ?_)
    by_cases h : q.2 = 0
    · rw [if_pos h, if_pos h]
      by_cases h2 : q.1 < 0
      · rw [if_pos h2, if_pos h2]; exact LeO.refl _
      · rw [if_neg h2, if_neg h2]; exact sect_Read.go_mono k l0 l _ _
    · rw [if_neg h, if_neg h]; exact LeO.refl _
theorem sect_Read.mono (l0 : List Int) (k : Nat) : LeO (sect_Read.f k l0) (sect_Read.f (k + 1) l0) := by
  intro r h
  unfold sect_Read.f at h ⊢
  by_cases c : (l0.length : Int) = 64
  · rw [if_pos c] at h ⊢
    obtain ⟨q, hq, rfl⟩ := Option.map_eq_some_iff.mp h
    exact Option.map_eq_some_iff.mpr ⟨q, sect_Read.go_mono k l0 _ _ _ _ hq, rfl⟩
  · rw [if_neg c] at h ⊢; exact h
set_option maxHeartbeats 4000000 in
set_option maxRecDepth 1000000 in
theorem sect_Read.calls (k : Nat) (A0 : Option Addr) (c0 : Nat) (l0 : List Int) (r1 r2 r3 r4 r5 r6 r7 r8 r9 r10 r11 : Int) (w : World) (hr0 : Kd.C (Kd.int .u8) w A0 l0.length l0) (hc0 : l0.length ≤ c0) (h : sect_Read.f k l0 = some (r1, r2, r3, r4, r5, r6, r7, r8, r9, r10, r11)) :
    Calls Try.prog 6 #[.slice A0 l0.length c0] w fun e w' => e = .returned (.tuple #[.agg #[.int .i64 r1, .int .i64 r2, .int .i64 r3, .int .i64 r4, .int .i64 r5, .int .i64 r6, .int .i64 r7, .int .i64 r8, .int .i64 r9, .int .i64 r10], .int .i64 r11]) ∧ Below w.heap.size w w' := by
  unfold sect_Read.f at h
  have huH := Try.underlying23
  by_cases hl : (l0.length : Int) = 64
  · rw [if_pos hl] at h
    obtain ⟨⟨rs, r0⟩, H, h⟩ := Option.map_eq_some_iff.mp h
    simp only [Prod.mk.injEq] at h
    obtain ⟨rfl, rfl, rfl, rfl, rfl, rfl, rfl, rfl, rfl, rfl, rfl⟩ := h
    have hlb : ((l0.length : Int) != 64) = false := bne_eq_false_iff_eq.mpr hl
    have HR0 := Aside0.mk hr0
    clear hr0 hl
    go_enter Try.func6, Try.ntmps6
    go_wp2_with (go_at_call 8; refine (sect_Read.fields_calls _ _).mono ?_; rintro e W' ⟨rfl, rfl⟩)
    go_outline
    go_loopg [4, 15] 11 (fun gf v4 v15 wr => ∃ (j : Nat) (x : Int) (acc : List Int), j + gf = 11 ∧ j ≤ 10 ∧ acc.length = j ∧ v4 = .int .i64 x ∧ v15 = .int .i64 j ∧ sect_Read.go k l0 (([4, 4, 8, 8, 8, 8, 4, 4, 8, 8] : List Int).drop j) x acc = some (rs, r0)
      ∧ wr.heap[w.heap.size]? = some (.cells (sect_Read.accCells acc) 23 (0, 0)) ∧ wr.heap[w.heap.size + 1]? = some (.cells (sect_Read.fieldCells w.heap.size) 40 (0, 0)) ∧ Below w.heap.size w wr)
    case atStart =>
      exact ⟨0, 0, [], rfl, by omega, rfl, rfl, rfl, H, blk_alloc (blk_drew (blk_new w _)) _, by rw [show w.heap.size + 1 = (w.alloc (.cells (sect_Read.accCells []) 23)).heap.size by simp]; exact blk_new (w.alloc _).drew _, below_alloc (below_drew1 (below_alloc (Below.refl _ _) _)) _⟩
    case round =>
      obtain ⟨j, x, acc, hj, hj10, hacc, rfl, rfl, HA, hb0, hb1, hB⟩ := hrel
      by_cases hlt : j < 10
      · obtain ⟨s, rest, hdrop, hc0', hc1⟩ : ∃ (s : Int) (rest : List Int), ([4, 4, 8, 8, 8, 8, 4, 4, 8, 8] : List Int).drop j = s :: rest ∧ wr.cell? ⟨w.heap.size + 1, j * 2, none⟩ = some (.pointer (some ⟨w.heap.size, j, none⟩)) ∧
            wr.cell? ⟨w.heap.size + 1, j * 2 + 1, none⟩ = some (.int .i64 s) := by
          clear hacc HA
          rcases (show j = 0 ∨ j = 1 ∨ j = 2 ∨ j = 3 ∨ j = 4 ∨ j = 5 ∨ j = 6 ∨ j = 7 ∨ j = 8 ∨ j = 9 by omega) with rfl | rfl | rfl | rfl | rfl | rfl | rfl | rfl | rfl | rfl <;>
            exact ⟨_, _, rfl, (blk_cell hb1 _).trans rfl, (blk_cell hb1 _).trans rfl⟩
        have hrest : ([4, 4, 8, 8, 8, 8, 4, 4, 8, 8] : List Int).drop (j + 1) = rest := by rw [← List.drop_drop, hdrop]; rfl
        rw [hdrop] at HA
        have hlen := blk_lt hb1
        have hcB : wr.cell? ⟨w.heap.size, j, none⟩ = some (.int .i64 (acc.getD j 0)) := by
          clear hacc HA
          rcases (show j = 0 ∨ j = 1 ∨ j = 2 ∨ j = 3 ∨ j = 4 ∨ j = 5 ∨ j = 6 ∨ j = 7 ∨ j = 8 ∨ j = 9 by omega) with rfl | rfl | rfl | rfl | rfl | rfl | rfl | rfl | rfl | rfl <;>
            exact (blk_cell hb0 _).trans rfl
        have hfB := blk_frozen hb0 j
        have HA' := Aside0.mk HA
        have HB0 := Aside0.mk hb0
        have HB1 := Aside0.mk hb1
        have HBB := Aside0.mk hB
        have HD := Aside0.mk hrest
        have HACC := Aside0.mk hacc
        clear HA hb0 hb1 hB hdrop hrest hacc
        have hlF : w.heap.size < wr.heap.size := by omega
        have HAx := HA'.out
        clear HA'
        simp only [sect_Read.go] at HAx
        obtain ⟨⟨q1, q2⟩, HP0, HQ0⟩ := Option.bind_eq_some_iff.mp HAx
        have HP := Aside0.mk HP0
        have HQ1 : (if q2 = 0 then (if q1 < 0 then some ([], 8) else sect_Read.go k l0 rest (wrap64 (x + s)) (acc ++ [q1])) else some ([], 8)) = some (rs, r0) := HQ0
        clear HAx HP0 HQ0
        by_cases hq : q2 = 0
        · subst hq
          rw [if_pos rfl] at HQ1
          by_cases hn : q1 < 0
          · rw [if_pos hn] at HQ1
            simp only [Option.some.injEq, Prod.mk.injEq] at HQ1
            obtain ⟨rfl, rfl⟩ := HQ1
            go_wp2_with (go_at_call 12; (with_reducible refine (le_Get.calls k A0 c0 l0 x s q1 _ _ (Kd.C_alloc (Kd.C_below HR0.out HBB.out) _) hc0 HP.out).mono ?_); rintro e w1 ⟨rfl, ⟨nd, rfl⟩⟩; have fc0 : ((wr.alloc (.cells #[.pointer (some ⟨w.heap.size, j, none⟩), .int .i64 s] 40)).drewN nd).cell? ⟨wr.heap.size, 0, none⟩ = some (.pointer (some ⟨w.heap.size, j, none⟩)) := (cell_of_row _ wr.heap.size 0 _ 40 (0, 0) (heap_alloc_new wr _)).trans rfl; have fc1 : ((wr.alloc (.cells #[.pointer (some ⟨w.heap.size, j, none⟩), .int .i64 s] 40)).drewN nd).cell? ⟨wr.heap.size, 1, none⟩ = some (.int .i64 s) := (cell_of_row _ wr.heap.size 1 _ 40 (0, 0) (heap_alloc_new wr _)).trans rfl; have gcB : ((wr.alloc (.cells #[.pointer (some ⟨w.heap.size, j, none⟩), .int .i64 s] 40)).drewN nd).cell? ⟨w.heap.size, j, none⟩ = some (.int .i64 (acc.getD j 0)) := (World.cell?_alloc_lt _ _ _ hlF).trans hcB; have gb0 := blk_drewN (blk_alloc HB0.out (.cells #[.pointer (some ⟨w.heap.size, j, none⟩), .int .i64 s] 40)) nd; have gb1 := blk_drewN (blk_alloc HB1.out (.cells #[.pointer (some ⟨w.heap.size, j, none⟩), .int .i64 s] 40)) nd; have gB := pw_below_drewN (below_alloc HBB.out (.cells #[.pointer (some ⟨w.heap.size, j, none⟩), .int .i64 s] 40)) nd; have gF : wr.heap.size < ((wr.alloc (.cells #[.pointer (some ⟨w.heap.size, j, none⟩), .int .i64 s] 40)).drewN nd).heap.size := (by rw [show ((wr.alloc (.cells #[.pointer (some ⟨w.heap.size, j, none⟩), .int .i64 s] 40)).drewN nd).heap.size = (wr.alloc (.cells #[.pointer (some ⟨w.heap.size, j, none⟩), .int .i64 s] 40)).heap.size from rfl]; simp); have gf0 := blk_frozen gb0 j; have gc0 := (blk_cell gb0 0).trans (show _ = some (Value.int .i64 (acc.getD 0 0)) from rfl); have gf0_ := blk_frozen gb0 0; have gc1 := (blk_cell gb0 1).trans (show _ = some (Value.int .i64 (acc.getD 1 0)) from rfl); have gf1_ := blk_frozen gb0 1; have gc2 := (blk_cell gb0 2).trans (show _ = some (Value.int .i64 (acc.getD 2 0)) from rfl); have gf2_ := blk_frozen gb0 2; have gc3 := (blk_cell gb0 3).trans (show _ = some (Value.int .i64 (acc.getD 3 0)) from rfl); have gf3_ := blk_frozen gb0 3; have gc4 := (blk_cell gb0 4).trans (show _ = some (Value.int .i64 (acc.getD 4 0)) from rfl); have gf4_ := blk_frozen gb0 4; have gc5 := (blk_cell gb0 5).trans (show _ = some (Value.int .i64 (acc.getD 5 0)) from rfl); have gf5_ := blk_frozen gb0 5; have gc6 := (blk_cell gb0 6).trans (show _ = some (Value.int .i64 (acc.getD 6 0)) from rfl); have gf6_ := blk_frozen gb0 6; have gc7 := (blk_cell gb0 7).trans (show _ = some (Value.int .i64 (acc.getD 7 0)) from rfl); have gf7_ := blk_frozen gb0 7; have gc8 := (blk_cell gb0 8).trans (show _ = some (Value.int .i64 (acc.getD 8 0)) from rfl); have gf8_ := blk_frozen gb0 8; have gc9 := (blk_cell gb0 9).trans (show _ = some (Value.int .i64 (acc.getD 9 0)) from rfl); have gf9_ := blk_frozen gb0 9; clear HB0 HB1 HBB hcB hfB; have HB0 := Aside0.mk gb0; have HB1 := Aside0.mk gb1; have HBB := Aside0.mk gB; clear gb0 gb1 gB; generalize (wr.alloc (.cells #[.pointer (some ⟨w.heap.size, j, none⟩), .int .i64 s] 40)).drewN nd = W at *)
            refine bodyPost_ret (results_ct rfl _ _ w.heap.size 23 #[.int .i64 0, .int .i64 0, .int .i64 0, .int .i64 0, .int .i64 0, .int .i64 0, .int .i64 0, .int .i64 0, .int .i64 0, .int .i64 0] (0, 0) _ rfl (by refine blk_put (cs := #[.int .i64 0, .int .i64 0, .int .i64 0, .int .i64 0, .int .i64 0, .int .i64 0, .int .i64 0, .int .i64 0, .int .i64 0, .int .i64 (acc.getD 9 0)]) ?_ 9 _ rfl; refine blk_put (cs := #[.int .i64 0, .int .i64 0, .int .i64 0, .int .i64 0, .int .i64 0, .int .i64 0, .int .i64 0, .int .i64 0, .int .i64 (acc.getD 8 0), .int .i64 (acc.getD 9 0)]) ?_ 8 _ rfl; refine blk_put (cs := #[.int .i64 0, .int .i64 0, .int .i64 0, .int .i64 0, .int .i64 0, .int .i64 0, .int .i64 0, .int .i64 (acc.getD 7 0), .int .i64 (acc.getD 8 0), .int .i64 (acc.getD 9 0)]) ?_ 7 _ rfl; refine blk_put (cs := #[.int .i64 0, .int .i64 0, .int .i64 0, .int .i64 0, .int .i64 0, .int .i64 0, .int .i64 (acc.getD 6 0), .int .i64 (acc.getD 7 0), .int .i64 (acc.getD 8 0), .int .i64 (acc.getD 9 0)]) ?_ 6 _ rfl; refine blk_put (cs := #[.int .i64 0, .int .i64 0, .int .i64 0, .int .i64 0, .int .i64 0, .int .i64 (acc.getD 5 0), .int .i64 (acc.getD 6 0), .int .i64 (acc.getD 7 0), .int .i64 (acc.getD 8 0), .int .i64 (acc.getD 9 0)]) ?_ 5 _ rfl; refine blk_put (cs := #[.int .i64 0, .int .i64 0, .int .i64 0, .int .i64 0, .int .i64 (acc.getD 4 0), .int .i64 (acc.getD 5 0), .int .i64 (acc.getD 6 0), .int .i64 (acc.getD 7 0), .int .i64 (acc.getD 8 0), .int .i64 (acc.getD 9 0)]) ?_ 4 _ rfl; refine blk_put (cs := #[.int .i64 0, .int .i64 0, .int .i64 0, .int .i64 (acc.getD 3 0), .int .i64 (acc.getD 4 0), .int .i64 (acc.getD 5 0), .int .i64 (acc.getD 6 0), .int .i64 (acc.getD 7 0), .int .i64 (acc.getD 8 0), .int .i64 (acc.getD 9 0)]) ?_ 3 _ rfl; refine blk_put (cs := #[.int .i64 0, .int .i64 0, .int .i64 (acc.getD 2 0), .int .i64 (acc.getD 3 0), .int .i64 (acc.getD 4 0), .int .i64 (acc.getD 5 0), .int .i64 (acc.getD 6 0), .int .i64 (acc.getD 7 0), .int .i64 (acc.getD 8 0), .int .i64 (acc.getD 9 0)]) ?_ 2 _ rfl; refine blk_put (cs := #[.int .i64 0, .int .i64 (acc.getD 1 0), .int .i64 (acc.getD 2 0), .int .i64 (acc.getD 3 0), .int .i64 (acc.getD 4 0), .int .i64 (acc.getD 5 0), .int .i64 (acc.getD 6 0), .int .i64 (acc.getD 7 0), .int .i64 (acc.getD 8 0), .int .i64 (acc.getD 9 0)]) ?_ 1 _ rfl; refine blk_put (cs := #[.int .i64 (acc.getD 0 0), .int .i64 (acc.getD 1 0), .int .i64 (acc.getD 2 0), .int .i64 (acc.getD 3 0), .int .i64 (acc.getD 4 0), .int .i64 (acc.getD 5 0), .int .i64 (acc.getD 6 0), .int .i64 (acc.getD 7 0), .int .i64 (acc.getD 8 0), .int .i64 (acc.getD 9 0)]) ?_ 0 _ rfl; exact HB0.out) Try.underlying23 rfl (by kernel_rfl)) rfl ?_
            exact ⟨rfl, (by repeat (with_reducible first | exact HBB.out | refine below_set ?_ (Nat.le_refl _) | (with_reducible apply pw_below_drewN) | (with_reducible apply below_drew1) | (with_reducible apply below_alloc)))⟩
          · rw [if_neg hn] at HQ1
            have HQ := Aside0.mk HQ1
            clear HQ1
            go_wp2_with (go_at_call 12; (with_reducible refine (le_Get.calls k A0 c0 l0 x s q1 _ _ (Kd.C_alloc (Kd.C_below HR0.out HBB.out) _) hc0 HP.out).mono ?_); rintro e w1 ⟨rfl, ⟨nd, rfl⟩⟩; have fc0 : ((wr.alloc (.cells #[.pointer (some ⟨w.heap.size, j, none⟩), .int .i64 s] 40)).drewN nd).cell? ⟨wr.heap.size, 0, none⟩ = some (.pointer (some ⟨w.heap.size, j, none⟩)) := (cell_of_row _ wr.heap.size 0 _ 40 (0, 0) (heap_alloc_new wr _)).trans rfl; have fc1 : ((wr.alloc (.cells #[.pointer (some ⟨w.heap.size, j, none⟩), .int .i64 s] 40)).drewN nd).cell? ⟨wr.heap.size, 1, none⟩ = some (.int .i64 s) := (cell_of_row _ wr.heap.size 1 _ 40 (0, 0) (heap_alloc_new wr _)).trans rfl; have gcB : ((wr.alloc (.cells #[.pointer (some ⟨w.heap.size, j, none⟩), .int .i64 s] 40)).drewN nd).cell? ⟨w.heap.size, j, none⟩ = some (.int .i64 (acc.getD j 0)) := (World.cell?_alloc_lt _ _ _ hlF).trans hcB; have gb0 := blk_drewN (blk_alloc HB0.out (.cells #[.pointer (some ⟨w.heap.size, j, none⟩), .int .i64 s] 40)) nd; have gb1 := blk_drewN (blk_alloc HB1.out (.cells #[.pointer (some ⟨w.heap.size, j, none⟩), .int .i64 s] 40)) nd; have gB := pw_below_drewN (below_alloc HBB.out (.cells #[.pointer (some ⟨w.heap.size, j, none⟩), .int .i64 s] 40)) nd; have gF : wr.heap.size < ((wr.alloc (.cells #[.pointer (some ⟨w.heap.size, j, none⟩), .int .i64 s] 40)).drewN nd).heap.size := (by rw [show ((wr.alloc (.cells #[.pointer (some ⟨w.heap.size, j, none⟩), .int .i64 s] 40)).drewN nd).heap.size = (wr.alloc (.cells #[.pointer (some ⟨w.heap.size, j, none⟩), .int .i64 s] 40)).heap.size from rfl]; simp); have gf0 := blk_frozen gb0 j;  clear HB0 HB1 HBB hcB hfB; have HB0 := Aside0.mk gb0; have HB1 := Aside0.mk gb1; have HBB := Aside0.mk gB; clear gb0 gb1 gB; generalize (wr.alloc (.cells #[.pointer (some ⟨w.heap.size, j, none⟩), .int .i64 s] 40)).drewN nd = W at *)
            cases gk with
            | zero => exact absurd hj (by omega)
            | succ k3 =>
              go_roundg k3
              case measure => omega
              case rel => exact ⟨j + 1, wrap64 (x + s), acc ++ [q1], by omega, by omega, by rw [List.length_append]; exact congrArg (· + 1) HACC.out, rfl, rfl, by rw [HD.out]; exact HQ.out, blk_put HB0.out j _ (by rw [← HACC.out]; exact sect_Read.accCells_set acc q1 (by rw [HACC.out]; exact hlt)), (blk_far HB1.out (p := ⟨w.heap.size, j, none⟩) (by simp) _), below_set HBB.out (Nat.le_refl _)⟩
        · rw [if_neg hq] at HQ1
          simp only [Option.some.injEq, Prod.mk.injEq] at HQ1
          obtain ⟨rfl, rfl⟩ := HQ1
          go_wp2_with (go_at_call 12; (with_reducible refine (le_Get.calls k A0 c0 l0 x s q1 _ _ (Kd.C_alloc (Kd.C_below HR0.out HBB.out) _) hc0 HP.out).mono ?_); rintro e w1 ⟨rfl, ⟨nd, rfl⟩⟩; have fc0 : ((wr.alloc (.cells #[.pointer (some ⟨w.heap.size, j, none⟩), .int .i64 s] 40)).drewN nd).cell? ⟨wr.heap.size, 0, none⟩ = some (.pointer (some ⟨w.heap.size, j, none⟩)) := (cell_of_row _ wr.heap.size 0 _ 40 (0, 0) (heap_alloc_new wr _)).trans rfl; have fc1 : ((wr.alloc (.cells #[.pointer (some ⟨w.heap.size, j, none⟩), .int .i64 s] 40)).drewN nd).cell? ⟨wr.heap.size, 1, none⟩ = some (.int .i64 s) := (cell_of_row _ wr.heap.size 1 _ 40 (0, 0) (heap_alloc_new wr _)).trans rfl; have gcB : ((wr.alloc (.cells #[.pointer (some ⟨w.heap.size, j, none⟩), .int .i64 s] 40)).drewN nd).cell? ⟨w.heap.size, j, none⟩ = some (.int .i64 (acc.getD j 0)) := (World.cell?_alloc_lt _ _ _ hlF).trans hcB; have gb0 := blk_drewN (blk_alloc HB0.out (.cells #[.pointer (some ⟨w.heap.size, j, none⟩), .int .i64 s] 40)) nd; have gb1 := blk_drewN (blk_alloc HB1.out (.cells #[.pointer (some ⟨w.heap.size, j, none⟩), .int .i64 s] 40)) nd; have gB := pw_below_drewN (below_alloc HBB.out (.cells #[.pointer (some ⟨w.heap.size, j, none⟩), .int .i64 s] 40)) nd; have gF : wr.heap.size < ((wr.alloc (.cells #[.pointer (some ⟨w.heap.size, j, none⟩), .int .i64 s] 40)).drewN nd).heap.size := (by rw [show ((wr.alloc (.cells #[.pointer (some ⟨w.heap.size, j, none⟩), .int .i64 s] 40)).drewN nd).heap.size = (wr.alloc (.cells #[.pointer (some ⟨w.heap.size, j, none⟩), .int .i64 s] 40)).heap.size from rfl]; simp); have gf0 := blk_frozen gb0 j; have gc0 := (blk_cell gb0 0).trans (show _ = some (Value.int .i64 (acc.getD 0 0)) from rfl); have gf0_ := blk_frozen gb0 0; have gc1 := (blk_cell gb0 1).trans (show _ = some (Value.int .i64 (acc.getD 1 0)) from rfl); have gf1_ := blk_frozen gb0 1; have gc2 := (blk_cell gb0 2).trans (show _ = some (Value.int .i64 (acc.getD 2 0)) from rfl); have gf2_ := blk_frozen gb0 2; have gc3 := (blk_cell gb0 3).trans (show _ = some (Value.int .i64 (acc.getD 3 0)) from rfl); have gf3_ := blk_frozen gb0 3; have gc4 := (blk_cell gb0 4).trans (show _ = some (Value.int .i64 (acc.getD 4 0)) from rfl); have gf4_ := blk_frozen gb0 4; have gc5 := (blk_cell gb0 5).trans (show _ = some (Value.int .i64 (acc.getD 5 0)) from rfl); have gf5_ := blk_frozen gb0 5; have gc6 := (blk_cell gb0 6).trans (show _ = some (Value.int .i64 (acc.getD 6 0)) from rfl); have gf6_ := blk_frozen gb0 6; have gc7 := (blk_cell gb0 7).trans (show _ = some (Value.int .i64 (acc.getD 7 0)) from rfl); have gf7_ := blk_frozen gb0 7; have gc8 := (blk_cell gb0 8).trans (show _ = some (Value.int .i64 (acc.getD 8 0)) from rfl); have gf8_ := blk_frozen gb0 8; have gc9 := (blk_cell gb0 9).trans (show _ = some (Value.int .i64 (acc.getD 9 0)) from rfl); have gf9_ := blk_frozen gb0 9; clear HB0 HB1 HBB hcB hfB; have HB0 := Aside0.mk gb0; have HB1 := Aside0.mk gb1; have HBB := Aside0.mk gB; clear gb0 gb1 gB; generalize (wr.alloc (.cells #[.pointer (some ⟨w.heap.size, j, none⟩), .int .i64 s] 40)).drewN nd = W at *)
          refine bodyPost_ret (results_ct rfl _ _ w.heap.size 23 #[.int .i64 0, .int .i64 0, .int .i64 0, .int .i64 0, .int .i64 0, .int .i64 0, .int .i64 0, .int .i64 0, .int .i64 0, .int .i64 0] (0, 0) _ rfl (by refine blk_put (cs := #[.int .i64 0, .int .i64 0, .int .i64 0, .int .i64 0, .int .i64 0, .int .i64 0, .int .i64 0, .int .i64 0, .int .i64 0, .int .i64 (acc.getD 9 0)]) ?_ 9 _ rfl; refine blk_put (cs := #[.int .i64 0, .int .i64 0, .int .i64 0, .int .i64 0, .int .i64 0, .int .i64 0, .int .i64 0, .int .i64 0, .int .i64 (acc.getD 8 0), .int .i64 (acc.getD 9 0)]) ?_ 8 _ rfl; refine blk_put (cs := #[.int .i64 0, .int .i64 0, .int .i64 0, .int .i64 0, .int .i64 0, .int .i64 0, .int .i64 0, .int .i64 (acc.getD 7 0), .int .i64 (acc.getD 8 0), .int .i64 (acc.getD 9 0)]) ?_ 7 _ rfl; refine blk_put (cs := #[.int .i64 0, .int .i64 0, .int .i64 0, .int .i64 0, .int .i64 0, .int .i64 0, .int .i64 (acc.getD 6 0), .int .i64 (acc.getD 7 0), .int .i64 (acc.getD 8 0), .int .i64 (acc.getD 9 0)]) ?_ 6 _ rfl; refine blk_put (cs := #[.int .i64 0, .int .i64 0, .int .i64 0, .int .i64 0, .int .i64 0, .int .i64 (acc.getD 5 0), .int .i64 (acc.getD 6 0), .int .i64 (acc.getD 7 0), .int .i64 (acc.getD 8 0), .int .i64 (acc.getD 9 0)]) ?_ 5 _ rfl; refine blk_put (cs := #[.int .i64 0, .int .i64 0, .int .i64 0, .int .i64 0, .int .i64 (acc.getD 4 0), .int .i64 (acc.getD 5 0), .int .i64 (acc.getD 6 0), .int .i64 (acc.getD 7 0), .int .i64 (acc.getD 8 0), .int .i64 (acc.getD 9 0)]) ?_ 4 _ rfl; refine blk_put (cs := #[.int .i64 0, .int .i64 0, .int .i64 0, .int .i64 (acc.getD 3 0), .int .i64 (acc.getD 4 0), .int .i64 (acc.getD 5 0), .int .i64 (acc.getD 6 0), .int .i64 (acc.getD 7 0), .int .i64 (acc.getD 8 0), .int .i64 (acc.getD 9 0)]) ?_ 3 _ rfl; refine blk_put (cs := #[.int .i64 0, .int .i64 0, .int .i64 (acc.getD 2 0), .int .i64 (acc.getD 3 0), .int .i64 (acc.getD 4 0), .int .i64 (acc.getD 5 0), .int .i64 (acc.getD 6 0), .int .i64 (acc.getD 7 0), .int .i64 (acc.getD 8 0), .int .i64 (acc.getD 9 0)]) ?_ 2 _ rfl; refine blk_put (cs := #[.int .i64 0, .int .i64 (acc.getD 1 0), .int .i64 (acc.getD 2 0), .int .i64 (acc.getD 3 0), .int .i64 (acc.getD 4 0), .int .i64 (acc.getD 5 0), .int .i64 (acc.getD 6 0), .int .i64 (acc.getD 7 0), .int .i64 (acc.getD 8 0), .int .i64 (acc.getD 9 0)]) ?_ 1 _ rfl; refine blk_put (cs := #[.int .i64 (acc.getD 0 0), .int .i64 (acc.getD 1 0), .int .i64 (acc.getD 2 0), .int .i64 (acc.getD 3 0), .int .i64 (acc.getD 4 0), .int .i64 (acc.getD 5 0), .int .i64 (acc.getD 6 0), .int .i64 (acc.getD 7 0), .int .i64 (acc.getD 8 0), .int .i64 (acc.getD 9 0)]) ?_ 0 _ rfl; exact HB0.out) Try.underlying23 rfl (by kernel_rfl)) rfl ?_
          exact ⟨rfl, (by repeat (with_reducible first | exact HBB.out | refine below_set ?_ (Nat.le_refl _) | (with_reducible apply pw_below_drewN) | (with_reducible apply below_drew1) | (with_reducible apply below_alloc)))⟩
      · have hj10' : j = 10 := by omega
        subst hj10'
        have HA' : some (acc, (0 : Int)) = some (rs, r0) := HA
        simp only [Option.some.injEq, Prod.mk.injEq] at HA'
        obtain ⟨rfl, rfl⟩ := HA'
        clear HA hacc
        have gc0 := (blk_cell hb0 0).trans (show _ = some (Value.int .i64 (acc.getD 0 0)) from rfl); have gf0_ := blk_frozen hb0 0; have gc1 := (blk_cell hb0 1).trans (show _ = some (Value.int .i64 (acc.getD 1 0)) from rfl); have gf1_ := blk_frozen hb0 1; have gc2 := (blk_cell hb0 2).trans (show _ = some (Value.int .i64 (acc.getD 2 0)) from rfl); have gf2_ := blk_frozen hb0 2; have gc3 := (blk_cell hb0 3).trans (show _ = some (Value.int .i64 (acc.getD 3 0)) from rfl); have gf3_ := blk_frozen hb0 3; have gc4 := (blk_cell hb0 4).trans (show _ = some (Value.int .i64 (acc.getD 4 0)) from rfl); have gf4_ := blk_frozen hb0 4; have gc5 := (blk_cell hb0 5).trans (show _ = some (Value.int .i64 (acc.getD 5 0)) from rfl); have gf5_ := blk_frozen hb0 5; have gc6 := (blk_cell hb0 6).trans (show _ = some (Value.int .i64 (acc.getD 6 0)) from rfl); have gf6_ := blk_frozen hb0 6; have gc7 := (blk_cell hb0 7).trans (show _ = some (Value.int .i64 (acc.getD 7 0)) from rfl); have gf7_ := blk_frozen hb0 7; have gc8 := (blk_cell hb0 8).trans (show _ = some (Value.int .i64 (acc.getD 8 0)) from rfl); have gf8_ := blk_frozen hb0 8; have gc9 := (blk_cell hb0 9).trans (show _ = some (Value.int .i64 (acc.getD 9 0)) from rfl); have gf9_ := blk_frozen hb0 9;
        have HB0 := Aside0.mk hb0
        have HBB := Aside0.mk hB
        clear hb0 hb1 hB
        go_wp2
        refine bodyPost_ret (results_ct rfl _ _ w.heap.size 23 #[.int .i64 (acc.getD 0 0), .int .i64 (acc.getD 1 0), .int .i64 (acc.getD 2 0), .int .i64 (acc.getD 3 0), .int .i64 (acc.getD 4 0), .int .i64 (acc.getD 5 0), .int .i64 (acc.getD 6 0), .int .i64 (acc.getD 7 0), .int .i64 (acc.getD 8 0), .int .i64 (acc.getD 9 0)] (0, 0) _ rfl (by refine blk_put (cs := #[.int .i64 (acc.getD 0 0), .int .i64 (acc.getD 1 0), .int .i64 (acc.getD 2 0), .int .i64 (acc.getD 3 0), .int .i64 (acc.getD 4 0), .int .i64 (acc.getD 5 0), .int .i64 (acc.getD 6 0), .int .i64 (acc.getD 7 0), .int .i64 (acc.getD 8 0), .int .i64 (acc.getD 9 0)]) ?_ 9 _ rfl; refine blk_put (cs := #[.int .i64 (acc.getD 0 0), .int .i64 (acc.getD 1 0), .int .i64 (acc.getD 2 0), .int .i64 (acc.getD 3 0), .int .i64 (acc.getD 4 0), .int .i64 (acc.getD 5 0), .int .i64 (acc.getD 6 0), .int .i64 (acc.getD 7 0), .int .i64 (acc.getD 8 0), .int .i64 (acc.getD 9 0)]) ?_ 8 _ rfl; refine blk_put (cs := #[.int .i64 (acc.getD 0 0), .int .i64 (acc.getD 1 0), .int .i64 (acc.getD 2 0), .int .i64 (acc.getD 3 0), .int .i64 (acc.getD 4 0), .int .i64 (acc.getD 5 0), .int .i64 (acc.getD 6 0), .int .i64 (acc.getD 7 0), .int .i64 (acc.getD 8 0), .int .i64 (acc.getD 9 0)]) ?_ 7 _ rfl; refine blk_put (cs := #[.int .i64 (acc.getD 0 0), .int .i64 (acc.getD 1 0), .int .i64 (acc.getD 2 0), .int .i64 (acc.getD 3 0), .int .i64 (acc.getD 4 0), .int .i64 (acc.getD 5 0), .int .i64 (acc.getD 6 0), .int .i64 (acc.getD 7 0), .int .i64 (acc.getD 8 0), .int .i64 (acc.getD 9 0)]) ?_ 6 _ rfl; refine blk_put (cs := #[.int .i64 (acc.getD 0 0), .int .i64 (acc.getD 1 0), .int .i64 (acc.getD 2 0), .int .i64 (acc.getD 3 0), .int .i64 (acc.getD 4 0), .int .i64 (acc.getD 5 0), .int .i64 (acc.getD 6 0), .int .i64 (acc.getD 7 0), .int .i64 (acc.getD 8 0), .int .i64 (acc.getD 9 0)]) ?_ 5 _ rfl; refine blk_put (cs := #[.int .i64 (acc.getD 0 0), .int .i64 (acc.getD 1 0), .int .i64 (acc.getD 2 0), .int .i64 (acc.getD 3 0), .int .i64 (acc.getD 4 0), .int .i64 (acc.getD 5 0), .int .i64 (acc.getD 6 0), .int .i64 (acc.getD 7 0), .int .i64 (acc.getD 8 0), .int .i64 (acc.getD 9 0)]) ?_ 4 _ rfl; refine blk_put (cs := #[.int .i64 (acc.getD 0 0), .int .i64 (acc.getD 1 0), .int .i64 (acc.getD 2 0), .int .i64 (acc.getD 3 0), .int .i64 (acc.getD 4 0), .int .i64 (acc.getD 5 0), .int .i64 (acc.getD 6 0), .int .i64 (acc.getD 7 0), .int .i64 (acc.getD 8 0), .int .i64 (acc.getD 9 0)]) ?_ 3 _ rfl; refine blk_put (cs := #[.int .i64 (acc.getD 0 0), .int .i64 (acc.getD 1 0), .int .i64 (acc.getD 2 0), .int .i64 (acc.getD 3 0), .int .i64 (acc.getD 4 0), .int .i64 (acc.getD 5 0), .int .i64 (acc.getD 6 0), .int .i64 (acc.getD 7 0), .int .i64 (acc.getD 8 0), .int .i64 (acc.getD 9 0)]) ?_ 2 _ rfl; refine blk_put (cs := #[.int .i64 (acc.getD 0 0), .int .i64 (acc.getD 1 0), .int .i64 (acc.getD 2 0), .int .i64 (acc.getD 3 0), .int .i64 (acc.getD 4 0), .int .i64 (acc.getD 5 0), .int .i64 (acc.getD 6 0), .int .i64 (acc.getD 7 0), .int .i64 (acc.getD 8 0), .int .i64 (acc.getD 9 0)]) ?_ 1 _ rfl; refine blk_put (cs := #[.int .i64 (acc.getD 0 0), .int .i64 (acc.getD 1 0), .int .i64 (acc.getD 2 0), .int .i64 (acc.getD 3 0), .int .i64 (acc.getD 4 0), .int .i64 (acc.getD 5 0), .int .i64 (acc.getD 6 0), .int .i64 (acc.getD 7 0), .int .i64 (acc.getD 8 0), .int .i64 (acc.getD 9 0)]) ?_ 0 _ rfl; exact HB0.out) Try.underlying23 rfl (by kernel_rfl)) rfl ?_
        exact ⟨rfl, (by repeat (with_reducible first | exact HBB.out | refine below_set ?_ (Nat.le_refl _) | (with_reducible apply pw_below_drewN) | (with_reducible apply below_drew1) | (with_reducible apply below_alloc)))⟩
  · rw [if_neg hl] at h
    simp only [Option.some.injEq, Prod.mk.injEq] at h
    obtain ⟨rfl, rfl, rfl, rfl, rfl, rfl, rfl, rfl, rfl, rfl, rfl⟩ := h
    have hlb : ((l0.length : Int) != 64) = true := bne_iff_ne.mpr hl
    clear hl
    go_enter Try.func6, Try.ntmps6
    go_wp2
    refine bodyPost_ret (results_ct rfl _ _ w.heap.size 23 #[.int .i64 0, .int .i64 0, .int .i64 0, .int .i64 0, .int .i64 0, .int .i64 0, .int .i64 0, .int .i64 0, .int .i64 0, .int .i64 0] (0, 0) _ rfl (blk_new w _) Try.underlying23 rfl (by kernel_rfl)) rfl ?_
    exact ⟨rfl, (by repeat (with_reducible first | exact Below.refl _ _ | refine below_set ?_ (Nat.le_refl _) | (with_reducible apply pw_below_drewN) | (with_reducible apply below_drew1) | (with_reducible apply below_alloc)))⟩

/-! ### quoinref07_Number: function 13 -/
def quoinref07_Number.l0 : Nat → List Int → Int → Int → Option (Int)
 | 0, _, _, _ => none
 | k + 1, x0, x3, x4 => if x4 ≥ 0 then (if 0 ≤ x4 then (if x4 < (x0.length : Int) then (quoinref07_Number.l0 k x0 (IntKind.u64.wrap ((IntKind.u64.wrap (x3 * 256)) + (IntKind.u64.wrap (rd x0 x4)))) (wrap64 (x4 - 1))) else (none)) else (none)) else (some (wrap64 (x3)))
def quoinref07_Number.f (k : Nat) (l0 : List Int) : Option (Int) := quoinref07_Number.l0 k l0 0 (wrap64 ((l0.length : Int) - 1))
theorem quoinref07_Number.mono_l : ∀ k, (∀ y0 y1 y2, LeO (quoinref07_Number.l0 k y0 y1 y2) (quoinref07_Number.l0 (k + 1) y0 y1 y2))
 | 0 => fun _ _ _ r h => by simp [quoinref07_Number.l0] at h
 | k + 1 => by
  have ih0 := quoinref07_Number.mono_l k
  ·
   intro y0 y1 y2
   unfold quoinref07_Number.l0
   repeat' first
   | (with_reducible exact ih0 _ _ _)
   | (with_reducible exact LeO.refl _)
   | (with_reducible exact LeO.none _)
   | (with_reducible refine LeO.ite ?_ ?_)
   | (with_reducible refine LeO.bind ?_ (fun _ => ?_))
   | exact ih0 _ _ _
   | exact LeO.none _
   | refine LeO.ite ?_ ?_
   | refine LeO.bind ?_ (fun _ => ?_)
theorem quoinref07_Number.mono : ∀ a0 k, LeO (quoinref07_Number.f k a0) (quoinref07_Number.f (k + 1) a0) := by
 intro a0 k
 have ih0 := quoinref07_Number.mono_l k
 unfold quoinref07_Number.f
 repeat' first
   | (with_reducible exact ih0 _ _ _)
   | (with_reducible exact LeO.refl _)
   | (with_reducible exact LeO.none _)
   | (with_reducible refine LeO.ite ?_ ?_)
   | (with_reducible refine LeO.bind ?_ (fun _ => ?_))
   | exact ih0 _ _ _
   | exact LeO.none _
   | refine LeO.ite ?_ ?_
   | refine LeO.bind ?_ (fun _ => ?_)
set_option maxHeartbeats 8000000 in
set_option maxRecDepth 100000 in
theorem quoinref07_Number.calls (k : Nat) (A0 : Option Addr) (c0 : Nat) (l0 : List Int) (r : Int) (w : World) (hr0 : Kd.C (Kd.int .u8) w A0 l0.length l0) (hc0 : l0.length ≤ c0) (h : quoinref07_Number.f k l0 = some r) :
  Calls Try.prog 13 #[.slice A0 l0.length c0] w fun e w' => e = .returned (.int .i64 r) ∧ Drawn0 w w' := by
 have HR0 := Aside0.mk hr0
 have HC0 := Aside0.mk hc0
 clear hr0 hc0
 have H : (quoinref07_Number.l0 k l0 0 (wrap64 ((l0.length : Int) - 1))) = some r := h
 clear h
 have H' := Aside0.mk H
 clear H
 go_enter Try.func13, Try.ntmps13
 go_wp2
 go_loopg [3, 4] k (fun kq v3 v4 w' => ∃ (x3_1 : Int) (x4_1 : Int), v3 = .int .u64 x3_1 ∧ v4 = .int .i64 x4_1 ∧ Aside0 (quoinref07_Number.l0 kq l0 x3_1 x4_1 = some r) ∧ Aside0 (kq ≤ k) ∧ Drawn0 w w')
 case atStart => exact ⟨(0), (wrap64 ((l0.length : Int) - 1)), (by first | rfl | (simp; done) | (simp [*]; done)), (by first | rfl | (simp; done) | (simp [*]; done)), H', ⟨Nat.le_refl _⟩, by repeat (first | exact Drawn0.refl _ | apply Drawn0.step)⟩
 case round =>
  clear H'
  try clear c1
  obtain ⟨x3_1, x4_1, rfl, rfl, HA, HK1, ⟨m1, rfl⟩⟩ := hrel
  cases gk with
  | zero => exact absurd HA.out (by simp [quoinref07_Number.l0])
  | succ k1 =>
   have H := HA.out
   clear HA
   simp only [quoinref07_Number.l0] at H
   by_cases c2 : x4_1 ≥ 0
   ·
    rw [if_pos c2] at H
    have c2b0 : decide (0 ≤ x4_1) = true := decide_eq_true c2
    clear c2
    by_cases c3 : 0 ≤ x4_1
    ·
     rw [if_pos c3] at H
     have c3b0 : decide (0 ≤ x4_1) = true := decide_eq_true c3
     clear c3
     by_cases c4 : x4_1 < (l0.length : Int)
     ·
      rw [if_pos c4] at H
      have c4b0 : decide (x4_1 < (l0.length : Int)) = true := decide_eq_true c4
      clear c4
      have H' := Aside0.mk H
      clear H
      have p183 : 0 ≤ (x4_1 : Int) := of_decide_eq_true (by first | (with_reducible assumption) | assumption)
      have q183 : x4_1 < (l0.length : Int) := of_decide_eq_true (by first | (with_reducible assumption) | assumption)
      obtain ⟨ad183, e183, hx183_0⟩ := Kd.at_int HR0.out x4_1 p183 q183
      cases e183
      replace p183 := eq_true p183
      replace q183 := eq_true q183
      go_wp2
      go_roundg k1
      case measure => have := HK1.out; omega
      case rel => exact ⟨(IntKind.u64.wrap ((IntKind.u64.wrap (x3_1 * 256)) + (IntKind.u64.wrap (rd l0 x4_1)))), (wrap64 (x4_1 - 1)), (by first | rfl | (simp; done) | (simp [*]; done)), (by first | rfl | (simp; done) | (simp [*]; done)), H', ⟨by have := HK1.out; omega⟩, by repeat (first | exact Drawn0.refl _ | apply Drawn0.step)⟩
     ·
      rw [if_neg c4] at H
      exact absurd H (by simp)
    ·
     rw [if_neg c3] at H
     exact absurd H (by simp)
   ·
    rw [if_neg c2] at H
    have c2b0 : decide (0 ≤ x4_1) = false := decide_eq_false c2
    clear c2
    obtain rfl := Option.some.inj H
    go_wp2
    go_ret
    exact ⟨by first | rfl | (simp; done) | (simp [*]; done), by repeat (first | exact Drawn0.refl _ | apply Drawn0.step)⟩

end Go.Proofs.Ytdhkmaiidbomdab.P
