-- Written by pext.py, a program of this session, over the kit's print: a function's contract
import Derived.Test.YtkjmbfabgkppaaaDoorPx0
import Derived.Test.YtkjmbfabgkppaaaDoorPx3
import Derived.Test.YtkjmbfabgkppaaaDoorPx4
namespace Go.Proofs.YtkjmbfabgkppaaaDoor.P
open Go.RowKit Go.Proofs.YtkjmbfabgkppaaaDoorW.PrintWords Go.Proofs.YtkjmbfabgkppaaaDoorW.PrintLast Go.Proofs.YtkjmbfabgkppaaaDoorW.PrintMore
attribute [local go_sem] max2_int min2_int max_two min_two max_three min_three max_four min_four   -- for this text's walks alone
set_option linter.unusedVariables false
set_option linter.unusedSimpArgs false

/-! ### quoinref21_renamed: function 25 -/
mutual
def quoinref21_renamed.j0 : Nat → List (S31) → Int → Bool → Int → List Int → Int → ByteArray → ByteArray → Int → Int → Option (Int × List Int × Int × ByteArray × ByteArray × Int × Int × Bool)
 | 0, _, _, _, _, _, _, _, _, _, _ => none
 | k + 1, x0, x1, x24, x143000, x143001, x143002, x143003, x143004, x143005, x143006 => if x24 = true then ((quoinref21_ahead.f k x0 x1 x143003).bind fun t147 => ((quoinref21_Name.f k x143003 t147).bind fun bt148 => (some (x143000, x143001, x143002, bt148.1, x143004, x143005, x143006, true)))) else (if x143000 = 1 then (quoinref21_renamed.j1 k x0 x1 true true true x143000 x143001 x143002 x143003 x143004 x143005 x143006) else (quoinref21_renamed.j1 k x0 x1 true true (x143000 == 3) x143000 x143001 x143002 x143003 x143004 x143005 x143006))
def quoinref21_renamed.j1 : Nat → List (S31) → Int → Bool → Bool → Bool → Int → List Int → Int → ByteArray → ByteArray → Int → Int → Option (Int × List Int × Int × ByteArray × ByteArray × Int × Int × Bool)
 | 0, _, _, _, _, _, _, _, _, _, _, _, _ => none
 | k + 1, x0, x1, x7, x8, x45, x143000, x143001, x143002, x143003, x143004, x143005, x143006 => if x45 = true then ((quoinref21_field.f k x0 x1 x143003).bind fun bt150 => (if x143000 = 3 then ((quoinref21_field.f k x0 x1 x143004).bind fun bt152 => (if bt150.2 = true then (some (x143000, x143001, x143002, bt150.1, bt152.1, x143005, x143006, bt152.2)) else (some (x143000, x143001, x143002, bt150.1, bt152.1, x143005, x143006, false)))) else (if bt150.2 = true then (some (x143000, x143001, x143002, bt150.1, x143004, x143005, x143006, x8)) else (some (x143000, x143001, x143002, bt150.1, x143004, x143005, x143006, false))))) else (if x143000 = 3 then ((quoinref21_field.f k x0 x1 x143004).bind fun bt154 => (if x7 = true then (some (x143000, x143001, x143002, x143003, bt154.1, x143005, x143006, bt154.2)) else (some (x143000, x143001, x143002, x143003, bt154.1, x143005, x143006, false)))) else (if x7 = true then (some (x143000, x143001, x143002, x143003, x143004, x143005, x143006, x8)) else (some (x143000, x143001, x143002, x143003, x143004, x143005, x143006, false))))
end
def quoinref21_renamed.f (k : Nat) (l0 : List (S31)) (a1 : Int) : Option (Int × List Int × Int × ByteArray × ByteArray × Int × Int × Bool) := if 0 ≤ a1 then (if a1 < (l0.length : Int) then (if ([] : List Int).length + ((rd_T31 l0 a1).f1).length < 140737488355328 then ((some (([] : List Int) ++ ((rd_T31 l0 a1).f1) : List Int)).bind fun y143 => (if ((rd_T31 l0 a1).f0) = 6 then ((quoinref21_Local.f k ((rd_T31 l0 a1).f3)).bind fun t146 => (quoinref21_renamed.j0 k l0 a1 t146 ((rd_T31 l0 a1).f0) y143 ((rd_T31 l0 a1).f2) ((rd_T31 l0 a1).f3) ((rd_T31 l0 a1).f4) ((rd_T31 l0 a1).f5) ((rd_T31 l0 a1).f6))) else (quoinref21_renamed.j0 k l0 a1 false ((rd_T31 l0 a1).f0) y143 ((rd_T31 l0 a1).f2) ((rd_T31 l0 a1).f3) ((rd_T31 l0 a1).f4) ((rd_T31 l0 a1).f5) ((rd_T31 l0 a1).f6)))) else (none)) else (none)) else (none)
theorem quoinref21_renamed.mono_l : ∀ k, (∀ y0 y1 y2 y3 y4 y5 y6 y7 y8 y9, LeO (quoinref21_renamed.j0 k y0 y1 y2 y3 y4 y5 y6 y7 y8 y9) (quoinref21_renamed.j0 (k + 1) y0 y1 y2 y3 y4 y5 y6 y7 y8 y9)) ∧ (∀ y0 y1 y2 y3 y4 y5 y6 y7 y8 y9 y10 y11, LeO (quoinref21_renamed.j1 k y0 y1 y2 y3 y4 y5 y6 y7 y8 y9 y10 y11) (quoinref21_renamed.j1 (k + 1) y0 y1 y2 y3 y4 y5 y6 y7 y8 y9 y10 y11))
 | 0 => ⟨fun _ _ _ _ _ _ _ _ _ _ r h => by simp [quoinref21_renamed.j0] at h, fun _ _ _ _ _ _ _ _ _ _ _ _ r h => by simp [quoinref21_renamed.j1] at h⟩
 | k + 1 => by
  obtain ⟨ih0, ih1⟩ := quoinref21_renamed.mono_l k
  refine ⟨?_, ?_⟩
  ·
   intro y0 y1 y2 y3 y4 y5 y6 y7 y8 y9
   unfold quoinref21_renamed.j0
   repeat' first
   | (with_reducible exact ih0 _ _ _ _ _ _ _ _ _ _)
   | (with_reducible exact ih1 _ _ _ _ _ _ _ _ _ _ _ _)
   | (with_reducible exact quoinref21_Local.mono _ _)
   | (with_reducible exact quoinref21_Name.mono _ _ _)
   | (with_reducible exact quoinref21_ahead.mono _ _ _ _)
   | (with_reducible exact quoinref21_field.mono _ _ _ _)
   | (with_reducible exact LeO.refl _)
   | (with_reducible exact LeO.none _)
   | (with_reducible refine LeO.ite ?_ ?_)
   | (with_reducible refine LeO.bind ?_ (fun _ => ?_))
   | exact ih0 _ _ _ _ _ _ _ _ _ _
   | exact ih1 _ _ _ _ _ _ _ _ _ _ _ _
   | exact quoinref21_Local.mono _ _
   | exact quoinref21_Name.mono _ _ _
   | exact quoinref21_ahead.mono _ _ _ _
   | exact quoinref21_field.mono _ _ _ _
   | exact LeO.none _
   | refine LeO.ite ?_ ?_
   | refine LeO.bind ?_ (fun _ => ?_)
  ·
   intro y0 y1 y2 y3 y4 y5 y6 y7 y8 y9 y10 y11
   unfold quoinref21_renamed.j1
   repeat' first
   | (with_reducible exact ih0 _ _ _ _ _ _ _ _ _ _)
   | (with_reducible exact ih1 _ _ _ _ _ _ _ _ _ _ _ _)
   | (with_reducible exact quoinref21_Local.mono _ _)
   | (with_reducible exact quoinref21_Name.mono _ _ _)
   | (with_reducible exact quoinref21_ahead.mono _ _ _ _)
   | (with_reducible exact quoinref21_field.mono _ _ _ _)
   | (with_reducible exact LeO.refl _)
   | (with_reducible exact LeO.none _)
   | (with_reducible refine LeO.ite ?_ ?_)
   | (with_reducible refine LeO.bind ?_ (fun _ => ?_))
   | exact ih0 _ _ _ _ _ _ _ _ _ _
   | exact ih1 _ _ _ _ _ _ _ _ _ _ _ _
   | exact quoinref21_Local.mono _ _
   | exact quoinref21_Name.mono _ _ _
   | exact quoinref21_ahead.mono _ _ _ _
   | exact quoinref21_field.mono _ _ _ _
   | exact LeO.none _
   | refine LeO.ite ?_ ?_
   | refine LeO.bind ?_ (fun _ => ?_)
theorem quoinref21_renamed.mono : ∀ a0 a1 k, LeO (quoinref21_renamed.f k a0 a1) (quoinref21_renamed.f (k + 1) a0 a1) := by
 intro a0 a1 k
 obtain ⟨ih0, ih1⟩ := quoinref21_renamed.mono_l k
 unfold quoinref21_renamed.f
 repeat' first
   | (with_reducible exact ih0 _ _ _ _ _ _ _ _ _ _)
   | (with_reducible exact ih1 _ _ _ _ _ _ _ _ _ _ _ _)
   | (with_reducible exact quoinref21_Local.mono _ _)
   | (with_reducible exact quoinref21_Name.mono _ _ _)
   | (with_reducible exact quoinref21_ahead.mono _ _ _ _)
   | (with_reducible exact quoinref21_field.mono _ _ _ _)
   | (with_reducible exact LeO.refl _)
   | (with_reducible exact LeO.none _)
   | (with_reducible refine LeO.ite ?_ ?_)
   | (with_reducible refine LeO.bind ?_ (fun _ => ?_))
   | exact ih0 _ _ _ _ _ _ _ _ _ _
   | exact ih1 _ _ _ _ _ _ _ _ _ _ _ _
   | exact quoinref21_Local.mono _ _
   | exact quoinref21_Name.mono _ _ _
   | exact quoinref21_ahead.mono _ _ _ _
   | exact quoinref21_field.mono _ _ _ _
   | exact LeO.none _
   | refine LeO.ite ?_ ?_
   | refine LeO.bind ?_ (fun _ => ?_)
def quoinref21_renamed.T4 : Bool × List (List Nat × List Nat) := (true, [([], []), ([0], [0]), ([], []), ([], []), ([], []), ([4], [4]), ([2, 3, 5], [2, 3, 5]), ([1, 6, 6], [1, 6]), ([7], [7]), ([8], [8]), ([8], [8]), ([0, 1, 2, 3, 4, 5, 6, 7, 8, 9], []), ([11, 9, 7, 0, 1, 2, 3, 4, 5, 6, 7, 8, 9], [9, 11])])
def quoinref21_renamed.B4 : List Nat := [0, 1, 0, 0, 0, 16, 60, 127, 255, 511, 511, 1023, 3071]
theorem quoinref21_renamed.tab4 : rtab .any (opsOf Tryd.f25 4) = quoinref21_renamed.T4 := by kernel_rfl
theorem quoinref21_renamed.bits4 : waitsOk quoinref21_renamed.T4.2 quoinref21_renamed.B4 = true := by kernel_rfl
set_option maxHeartbeats 8000000 in
set_option maxRecDepth 100000 in
theorem quoinref21_renamed.calls (k : Nat) (A0 : Option Addr) (c0 : Nat) (l0 : List (S31)) (a1 : Int) (r1 : Int) (r2 : List Int) (r3 : Int) (r4 : ByteArray) (r5 : ByteArray) (r6 : Int) (r7 : Int) (r8 : Bool) (w : World) (hr0 : Kd.C k31 w A0 l0.length l0) (hc0 : l0.length ≤ c0) (h : quoinref21_renamed.f k l0 a1 = some (r1, r2, r3, r4, r5, r6, r7, r8)) :
  Calls Tryd.prog 25 #[.slice A0 l0.length c0, .int .i64 a1] w fun e w' => ∃ v1_ : Value, e = .returned (.tuple #[.agg #[.int .u8 r1, v1_, .int .u8 r3, .string r4, .string r5, .int .i64 r6, .int .i64 r7], .bool r8]) ∧ Kd.R (Kd.int .u8) 5 w' w.heap.size (fun _ => True) v1_ r2 ∧ Below w.heap.size w w' := by
 have hu31 := Tryd.underlying31
 have HR0 := Aside0.mk hr0
 have HC0 := Aside0.mk hc0
 clear hr0 hc0
 have HB := Aside0.mk (Below.refl w.heap.size w)
 have H : (if 0 ≤ a1 then (if a1 < (l0.length : Int) then (if ([] : List Int).length + ((rd_T31 l0 a1).f1).length < 140737488355328 then ((some (([] : List Int) ++ ((rd_T31 l0 a1).f1) : List Int)).bind fun y143 => (if ((rd_T31 l0 a1).f0) = 6 then ((quoinref21_Local.f k ((rd_T31 l0 a1).f3)).bind fun t146 => (quoinref21_renamed.j0 k l0 a1 t146 ((rd_T31 l0 a1).f0) y143 ((rd_T31 l0 a1).f2) ((rd_T31 l0 a1).f3) ((rd_T31 l0 a1).f4) ((rd_T31 l0 a1).f5) ((rd_T31 l0 a1).f6))) else (quoinref21_renamed.j0 k l0 a1 false ((rd_T31 l0 a1).f0) y143 ((rd_T31 l0 a1).f2) ((rd_T31 l0 a1).f3) ((rd_T31 l0 a1).f4) ((rd_T31 l0 a1).f5) ((rd_T31 l0 a1).f6)))) else (none)) else (none)) else (none)) = some (r1, r2, r3, r4, r5, r6, r7, r8) := h
 clear h
 by_cases c3 : 0 ≤ a1
 ·
  rw [if_pos c3] at H
  have c3b0 : decide (0 ≤ a1) = true := decide_eq_true c3
  clear c3
  by_cases c4 : a1 < (l0.length : Int)
  ·
   rw [if_pos c4] at H
   have c4b0 : decide (a1 < (l0.length : Int)) = true := decide_eq_true c4
   clear c4
   by_cases c5 : ([] : List Int).length + ((rd_T31 l0 a1).f1).length < 140737488355328
   ·
    rw [if_pos c5] at H
    have LMc5 := Aside0.mk c5
    clear c5
    obtain ⟨y143, hy143⟩ : ∃ y_ : List Int, y_ = (([] : List Int) ++ ((rd_T31 l0 a1).f1)) := ⟨_, rfl⟩
    replace H : (if ((rd_T31 l0 a1).f0) = 6 then ((quoinref21_Local.f k ((rd_T31 l0 a1).f3)).bind fun t146 => (quoinref21_renamed.j0 k l0 a1 t146 ((rd_T31 l0 a1).f0) y143 ((rd_T31 l0 a1).f2) ((rd_T31 l0 a1).f3) ((rd_T31 l0 a1).f4) ((rd_T31 l0 a1).f5) ((rd_T31 l0 a1).f6))) else (quoinref21_renamed.j0 k l0 a1 false ((rd_T31 l0 a1).f0) y143 ((rd_T31 l0 a1).f2) ((rd_T31 l0 a1).f3) ((rd_T31 l0 a1).f4) ((rd_T31 l0 a1).f5) ((rd_T31 l0 a1).f6))) = some (r1, r2, r3, r4, r5, r6, r7, r8) := by first | (rw [hy143]; with_reducible exact H) | (have H2_ := (Option.bind_some _ _).symm.trans H; rw [hy143]; with_reducible exact H2_) | (have H2_ := (Option.bind_some _ _).symm.trans H; with_reducible exact H2_) | with_reducible exact H | (rw [hy143]; exact H) | exact H
    have Ny143 := Aside0.mk hy143
    clear hy143
    have HC6 := Aside0.mk H
    clear H
    go_enter Tryd.func25, Tryd.ntmps25
    go_upto_region 3 with (first | ((with_reducible refine gate_dst (N := 4) rfl ?_); refine box_event ?hg (N := 4) ?hd (cs := #[.int .u8 0, .slice none 0 0, .int .u8 0, .string (⟨#[]⟩ : ByteArray), .string (⟨#[]⟩ : ByteArray), .int .i64 0, .int .i64 0]) (t := 31) ?hr ?_; (case hd => rfl); (case hg => rfl); (case hr => first | (go_simp; done) | (go_simp; rfl)); intro gb140 hg w7 hbox hb; have n0_ := Aside0.mk (below_step (by repeat (first | (with_reducible first | exact HB.out | apply below_alloc | apply pw_below_drewN | apply below_drew1) | exact HB.out)) hb); have n1_ := Aside0.mk (hbox); have n2_ := Aside0.mk ((by rw [hg]; exact (below_size (by repeat (first | (with_reducible first | exact HB.out | apply below_alloc | apply pw_below_drewN | apply below_drew1) | exact HB.out))) : w.heap.size ≤ gb140)); have n3_ := Aside0.mk ((by rw [hg]; exact (below_size (by repeat (first | (with_reducible first | exact HB.out | apply below_alloc | apply pw_below_drewN | apply below_drew1) | exact HB.out))) : w.heap.size ≤ gb140)); clear HB; have HB := n0_; have BK140 := n1_; have GW140 := n2_; have GE140 := n3_; clear n0_ n1_ n2_ n3_; clear hb hbox hg; have p141 : 0 ≤ (a1 : Int) := of_decide_eq_true (by first | (with_reducible assumption) | assumption); have q141 : a1 < (l0.length : Int) := of_decide_eq_true (by first | (with_reducible assumption) | assumption); obtain ⟨ad141, A141_1, c141_1, e141, hx141_0, hx141_1, hx141_2, hx141_3, hx141_4, hx141_5, hx141_6, hl141_1, hi141_1⟩ := at_T31 HR0.out a1 p141 q141; cases e141; replace hx141_0 := (HB.out.cell (World.block_lt_of_cell? w _ hx141_0)).trans hx141_0; replace hx141_1 := (HB.out.cell (World.block_lt_of_cell? w _ hx141_1)).trans hx141_1; replace hx141_2 := (HB.out.cell (World.block_lt_of_cell? w _ hx141_2)).trans hx141_2; replace hx141_3 := (HB.out.cell (World.block_lt_of_cell? w _ hx141_3)).trans hx141_3; replace hx141_4 := (HB.out.cell (World.block_lt_of_cell? w _ hx141_4)).trans hx141_4; replace hx141_5 := (HB.out.cell (World.block_lt_of_cell? w _ hx141_5)).trans hx141_5; replace hx141_6 := (HB.out.cell (World.block_lt_of_cell? w _ hx141_6)).trans hx141_6; have HR141_1 := Aside0.mk hi141_1; have HC141_1 := Aside0.mk hl141_1; clear hi141_1 hl141_1; replace p141 := eq_true p141; replace q141 := eq_true q141) | ((with_reducible refine gate_dst (N := 6) rfl ?_); refine box_event ?hg (N := 6) ?hd (cs := #[.int .u8 0, .slice none 0 0, .int .u8 0, .string (⟨#[]⟩ : ByteArray), .string (⟨#[]⟩ : ByteArray), .int .i64 0, .int .i64 0]) (t := 31) ?hr ?_; (case hd => rfl); (case hg => rfl); (case hr => first | (go_simp; done) | (go_simp; rfl)); intro gb142 hg w8 hbox hb; have n0_ := Aside0.mk (blk_below (g := gb140) (o := .cells #[.int .u8 0, .slice none 0 0, .int .u8 0, .string (⟨#[]⟩ : ByteArray), .string (⟨#[]⟩ : ByteArray), .int .i64 0, .int .i64 0] 31 (0, 0)) (by (with_reducible repeat (first | refine blk_drewN ?_ _ | refine blk_drew ?_ | refine blk_alloc ?_ _)); exact BK140.out) hb); have n1_ := Aside0.mk (below_step (by repeat (first | (with_reducible first | exact HB.out | apply below_alloc | apply pw_below_drewN | apply below_drew1 | refine below_set ?_ GE140.out) | exact HB.out)) hb); have n2_ := Aside0.mk (hbox); have n3_ := Aside0.mk ((by rw [hg]; exact (below_size (by repeat (first | (with_reducible first | exact HB.out | apply below_alloc | apply pw_below_drewN | apply below_drew1 | refine below_set ?_ GE140.out) | exact HB.out))) : w.heap.size ≤ gb142)); have n4_ := Aside0.mk ((by rw [hg]; exact (below_size (by repeat (first | (with_reducible first | exact HB.out | apply below_alloc | apply pw_below_drewN | apply below_drew1 | refine below_set ?_ GE140.out) | exact HB.out))) : w.heap.size ≤ gb142)); have n5_ := Aside0.mk ((by rw [hg]; exact Nat.ne_of_lt (blk_lt (g := gb140) (o := .cells #[.int .u8 0, .slice none 0 0, .int .u8 0, .string (⟨#[]⟩ : ByteArray), .string (⟨#[]⟩ : ByteArray), .int .i64 0, .int .i64 0] 31 (0, 0)) (by (with_reducible repeat (first | refine blk_drewN ?_ _ | refine blk_drew ?_ | refine blk_alloc ?_ _)); exact BK140.out)) : gb140 ≠ gb142)); have n6_ := Aside0.mk ((by rw [hg]; exact Nat.ne_of_gt (blk_lt (g := gb140) (o := .cells #[.int .u8 0, .slice none 0 0, .int .u8 0, .string (⟨#[]⟩ : ByteArray), .string (⟨#[]⟩ : ByteArray), .int .i64 0, .int .i64 0] 31 (0, 0)) (by (with_reducible repeat (first | refine blk_drewN ?_ _ | refine blk_drew ?_ | refine blk_alloc ?_ _)); exact BK140.out)) : gb142 ≠ gb140)); clear BK140; clear HB; have BK140 := n0_; have HB := n1_; have BK142 := n2_; have GW142 := n3_; have GE142 := n4_; have NB140_142 := n5_; have NB142_140 := n6_; clear n0_ n1_ n2_ n3_ n4_ n5_ n6_; clear hb hbox hg; have hnb9 := NB142_140.out; have hnc9 := NB140_142.out; have hcz10_0 : w8.cell? ⟨gb142, 0, none⟩ = some (.int .u8 0) := (blk_cell BK142.out 0).trans rfl; have hcz10_1 : w8.cell? ⟨gb142, 1, none⟩ = some (.slice none 0 0) := (blk_cell BK142.out 1).trans rfl; have hcz10_2 : w8.cell? ⟨gb142, 2, none⟩ = some (.int .u8 0) := (blk_cell BK142.out 2).trans rfl; have hcz10_3 : w8.cell? ⟨gb142, 3, none⟩ = some (.string (⟨#[]⟩ : ByteArray)) := (blk_cell BK142.out 3).trans rfl; have hcz10_4 : w8.cell? ⟨gb142, 4, none⟩ = some (.string (⟨#[]⟩ : ByteArray)) := (blk_cell BK142.out 4).trans rfl; have hcz10_5 : w8.cell? ⟨gb142, 5, none⟩ = some (.int .i64 0) := (blk_cell BK142.out 5).trans rfl; have hcz10_6 : w8.cell? ⟨gb142, 6, none⟩ = some (.int .i64 0) := (blk_cell BK142.out 6).trans rfl; have hfz10_0 := blk_frozen BK142.out 0; have hfz10_1 := blk_frozen BK142.out 1; have hfz10_2 := blk_frozen BK142.out 2; have hfz10_3 := blk_frozen BK142.out 3; have hfz10_4 := blk_frozen BK142.out 4; have hfz10_5 := blk_frozen BK142.out 5; have hfz10_6 := blk_frozen BK142.out 6) | ((with_reducible refine gate_builtin (b := .append) (xs := #[.const (.slice none 0 0), .tmp 14]) rfl ?_); at_builtin; refine Kd.R_append_rows (Kd.int .u8) (w0 := w) w.heap.size rfl (.const (.slice none 0 0)) (.tmp 14) 29 5 (.int .u8 0) 1 rfl Tryd.underlying29 info5 rfl (by decide) (by omega) (.slice none 0 0) ([] : List Int) ((rd_T31 l0 a1).f1) _ _ _ (fun _ => True) (fun _ => False) rfl rfl ?aO ?aR (fun _ _ h => h) (fun _ h => h.elim) ?aF ?aB ?aS ?aL ?_; (case aR => exact Kd.C_below HR141_1.out (by repeat (first | (with_reducible first | exact HB.out | apply below_alloc | apply pw_below_drewN | apply below_drew1 | refine below_set ?_ GE140.out | refine below_set ?_ GE142.out) | exact HB.out))); (case aB => exact (by repeat (first | (with_reducible first | exact HB.out | apply below_alloc | apply pw_below_drewN | apply below_drew1 | refine below_set ?_ GE140.out | refine below_set ?_ GE142.out) | exact HB.out))); (case aF => exact (fun _ _ => trivial)); (case aO => exact ((Kd.R_nil _ _ _ _ (fun _ => True)))); (case aS => exact (below_size (by repeat (first | (with_reducible first | exact HB.out | apply below_alloc | apply pw_below_drewN | apply below_drew1 | refine below_set ?_ GE140.out | refine below_set ?_ GE142.out) | exact HB.out)))); (case aL => have := LMc5.out; omega); intro v144 w11 ho hb hg hat; rw [← Ny143.out] at ho; have n0_ := Aside0.mk (blk_grown (g := gb140) (o := .cells #[.int .u8 0, .slice none 0 0, .int .u8 0, .string (⟨#[]⟩ : ByteArray), .string (⟨#[]⟩ : ByteArray), .int .i64 0, .int .i64 0] 31 (0, 0)) (by (with_reducible repeat (first | refine blk_drewN ?_ _ | refine blk_drew ?_ | refine blk_alloc ?_ _)); refine blk_far ?_ NB140_142.out _; (with_reducible repeat (first | refine blk_drewN ?_ _ | refine blk_drew ?_ | refine blk_alloc ?_ _)); refine blk_far ?_ NB140_142.out _; (with_reducible repeat (first | refine blk_drewN ?_ _ | refine blk_drew ?_ | refine blk_alloc ?_ _)); refine blk_far ?_ NB140_142.out _; (with_reducible repeat (first | refine blk_drewN ?_ _ | refine blk_drew ?_ | refine blk_alloc ?_ _)); refine blk_far ?_ NB140_142.out _; (with_reducible repeat (first | refine blk_drewN ?_ _ | refine blk_drew ?_ | refine blk_alloc ?_ _)); refine blk_far ?_ NB140_142.out _; (with_reducible repeat (first | refine blk_drewN ?_ _ | refine blk_drew ?_ | refine blk_alloc ?_ _)); refine blk_far ?_ NB140_142.out _; (with_reducible repeat (first | refine blk_drewN ?_ _ | refine blk_drew ?_ | refine blk_alloc ?_ _)); refine blk_far ?_ NB140_142.out _; (with_reducible repeat (first | refine blk_drewN ?_ _ | refine blk_drew ?_ | refine blk_alloc ?_ _)); exact BK140.out) hg (by simp [Value.ownBlock])); have n1_ := Aside0.mk (blk_grown (g := gb142) (o := .cells #[.int .u8 ((rd_T31 l0 a1).f0), .slice A141_1 ((rd_T31 l0 a1).f1).length c141_1, .int .u8 ((rd_T31 l0 a1).f2), .string ((rd_T31 l0 a1).f3), .string ((rd_T31 l0 a1).f4), .int .i64 ((rd_T31 l0 a1).f5), .int .i64 ((rd_T31 l0 a1).f6)] 31 (0, 0)) (by (with_reducible repeat (first | refine blk_drewN ?_ _ | refine blk_drew ?_ | refine blk_alloc ?_ _)); refine blk_put (cs := #[.int .u8 ((rd_T31 l0 a1).f0), .slice A141_1 ((rd_T31 l0 a1).f1).length c141_1, .int .u8 ((rd_T31 l0 a1).f2), .string ((rd_T31 l0 a1).f3), .string ((rd_T31 l0 a1).f4), .int .i64 ((rd_T31 l0 a1).f5), .int .i64 0]) ?_ 6 _ rfl; (with_reducible repeat (first | refine blk_drewN ?_ _ | refine blk_drew ?_ | refine blk_alloc ?_ _)); refine blk_put (cs := #[.int .u8 ((rd_T31 l0 a1).f0), .slice A141_1 ((rd_T31 l0 a1).f1).length c141_1, .int .u8 ((rd_T31 l0 a1).f2), .string ((rd_T31 l0 a1).f3), .string ((rd_T31 l0 a1).f4), .int .i64 0, .int .i64 0]) ?_ 5 _ rfl; (with_reducible repeat (first | refine blk_drewN ?_ _ | refine blk_drew ?_ | refine blk_alloc ?_ _)); refine blk_put (cs := #[.int .u8 ((rd_T31 l0 a1).f0), .slice A141_1 ((rd_T31 l0 a1).f1).length c141_1, .int .u8 ((rd_T31 l0 a1).f2), .string ((rd_T31 l0 a1).f3), .string (⟨#[]⟩ : ByteArray), .int .i64 0, .int .i64 0]) ?_ 4 _ rfl; (with_reducible repeat (first | refine blk_drewN ?_ _ | refine blk_drew ?_ | refine blk_alloc ?_ _)); refine blk_put (cs := #[.int .u8 ((rd_T31 l0 a1).f0), .slice A141_1 ((rd_T31 l0 a1).f1).length c141_1, .int .u8 ((rd_T31 l0 a1).f2), .string (⟨#[]⟩ : ByteArray), .string (⟨#[]⟩ : ByteArray), .int .i64 0, .int .i64 0]) ?_ 3 _ rfl; (with_reducible repeat (first | refine blk_drewN ?_ _ | refine blk_drew ?_ | refine blk_alloc ?_ _)); refine blk_put (cs := #[.int .u8 ((rd_T31 l0 a1).f0), .slice A141_1 ((rd_T31 l0 a1).f1).length c141_1, .int .u8 0, .string (⟨#[]⟩ : ByteArray), .string (⟨#[]⟩ : ByteArray), .int .i64 0, .int .i64 0]) ?_ 2 _ rfl; (with_reducible repeat (first | refine blk_drewN ?_ _ | refine blk_drew ?_ | refine blk_alloc ?_ _)); refine blk_put (cs := #[.int .u8 ((rd_T31 l0 a1).f0), .slice none 0 0, .int .u8 0, .string (⟨#[]⟩ : ByteArray), .string (⟨#[]⟩ : ByteArray), .int .i64 0, .int .i64 0]) ?_ 1 _ rfl; (with_reducible repeat (first | refine blk_drewN ?_ _ | refine blk_drew ?_ | refine blk_alloc ?_ _)); refine blk_put (cs := #[.int .u8 0, .slice none 0 0, .int .u8 0, .string (⟨#[]⟩ : ByteArray), .string (⟨#[]⟩ : ByteArray), .int .i64 0, .int .i64 0]) ?_ 0 _ rfl; (with_reducible repeat (first | refine blk_drewN ?_ _ | refine blk_drew ?_ | refine blk_alloc ?_ _)); exact BK142.out) hg (by simp [Value.ownBlock])); have n2_ := Aside0.mk (hb); have n3_ := Aside0.mk (ho); clear BK140; clear BK142; clear HB; have BK140 := n0_; have BK142 := n1_; have HB := n2_; have HO145 := n3_; clear n0_ n1_ n2_ n3_; clear ho hb hg hat; obtain ⟨Ao12, co12, eo12⟩ := Kd.R_slice HO145.out; subst eo12; have hcz13_0 : w11.cell? ⟨gb142, 0, none⟩ = some (.int .u8 ((rd_T31 l0 a1).f0)) := (blk_cell BK142.out 0).trans rfl; have hcz13_1 : w11.cell? ⟨gb142, 1, none⟩ = some (.slice A141_1 ((rd_T31 l0 a1).f1).length c141_1) := (blk_cell BK142.out 1).trans rfl; have hcz13_2 : w11.cell? ⟨gb142, 2, none⟩ = some (.int .u8 ((rd_T31 l0 a1).f2)) := (blk_cell BK142.out 2).trans rfl; have hcz13_3 : w11.cell? ⟨gb142, 3, none⟩ = some (.string ((rd_T31 l0 a1).f3)) := (blk_cell BK142.out 3).trans rfl; have hcz13_4 : w11.cell? ⟨gb142, 4, none⟩ = some (.string ((rd_T31 l0 a1).f4)) := (blk_cell BK142.out 4).trans rfl; have hcz13_5 : w11.cell? ⟨gb142, 5, none⟩ = some (.int .i64 ((rd_T31 l0 a1).f5)) := (blk_cell BK142.out 5).trans rfl; have hcz13_6 : w11.cell? ⟨gb142, 6, none⟩ = some (.int .i64 ((rd_T31 l0 a1).f6)) := (blk_cell BK142.out 6).trans rfl; have hfz13_0 := blk_frozen BK142.out 0; have hfz13_1 := blk_frozen BK142.out 1; have hfz13_2 := blk_frozen BK142.out 2; have hfz13_3 := blk_frozen BK142.out 3; have hfz13_4 := blk_frozen BK142.out 4; have hfz13_5 := blk_frozen BK142.out 5; have hfz13_6 := blk_frozen BK142.out 6))
    (try simp only [Act.put, List.setIfInBounds_toArray, List.set_cons_zero, List.set_cons_succ])
    go_cut [24] (fun v24 wc => ∃ (kq : Nat) (x24_5 : Bool), v24 = .bool x24_5 ∧ Aside0 (quoinref21_renamed.j0 kq l0 a1 x24_5 ((rd_T31 l0 a1).f0) y143 ((rd_T31 l0 a1).f2) ((rd_T31 l0 a1).f3) ((rd_T31 l0 a1).f4) ((rd_T31 l0 a1).f5) ((rd_T31 l0 a1).f6) = some (r1, r2, r3, r4, r5, r6, r7, r8)) ∧ Aside0 (kq ≤ k) ∧ Aside0 (Kd.R (Kd.int .u8) 5 wc w.heap.size (fun _ => True) (.slice Ao12 y143.length co12) y143) ∧ Aside0 (wc.heap[gb140]? = some (.cells #[.int .u8 0, (.slice none 0 0), .int .u8 0, .string (⟨#[]⟩ : ByteArray), .string (⟨#[]⟩ : ByteArray), .int .i64 0, .int .i64 0] 31 (0, 0))) ∧ Aside0 (wc.heap[gb142]? = some (.cells #[.int .u8 ((rd_T31 l0 a1).f0), (.slice Ao12 y143.length co12), .int .u8 ((rd_T31 l0 a1).f2), .string ((rd_T31 l0 a1).f3), .string ((rd_T31 l0 a1).f4), .int .i64 ((rd_T31 l0 a1).f5), .int .i64 ((rd_T31 l0 a1).f6)] 31 (0, 0))) ∧ Aside0 (Below w.heap.size w wc))
    case first =>
     have H := HC6.out
     clear HC6
     by_cases c14 : ((rd_T31 l0 a1).f0) = 6
     ·
      rw [if_pos c14] at H
      have c14b0 : (((rd_T31 l0 a1).f0) == 6) = true := beq_iff_eq.mpr c14
      have c14b1 : (((rd_T31 l0 a1).f0) != 6) = false := bne_eq_false_iff_eq.mpr c14
      clear c14
      (first | rw [c14b0] | (simp only [i64_w, i32_w]; rw [c14b0]) | skip)
      replace H := Option.bind_eq_some_iff.mp H
      obtain ⟨t146, A150, H⟩ := H
      replace H : (quoinref21_renamed.j0 k l0 a1 t146 ((rd_T31 l0 a1).f0) y143 ((rd_T31 l0 a1).f2) ((rd_T31 l0 a1).f3) ((rd_T31 l0 a1).f4) ((rd_T31 l0 a1).f5) ((rd_T31 l0 a1).f6)) = some (r1, r2, r3, r4, r5, r6, r7, r8) := H
      have A15 := Aside0.mk A150
      clear A150
      have H' := Aside0.mk H
      clear H
      have hnb16 := NB142_140.out
      have hnc16 := NB140_142.out
      have hcz17_0 : w11.cell? ⟨gb142, 0, none⟩ = some (.int .u8 ((rd_T31 l0 a1).f0)) := (blk_cell BK142.out 0).trans rfl
      have hcz17_1 : w11.cell? ⟨gb142, 1, none⟩ = some (.slice A141_1 ((rd_T31 l0 a1).f1).length c141_1) := (blk_cell BK142.out 1).trans rfl
      have hcz17_2 : w11.cell? ⟨gb142, 2, none⟩ = some (.int .u8 ((rd_T31 l0 a1).f2)) := (blk_cell BK142.out 2).trans rfl
      have hcz17_3 : w11.cell? ⟨gb142, 3, none⟩ = some (.string ((rd_T31 l0 a1).f3)) := (blk_cell BK142.out 3).trans rfl
      have hcz17_4 : w11.cell? ⟨gb142, 4, none⟩ = some (.string ((rd_T31 l0 a1).f4)) := (blk_cell BK142.out 4).trans rfl
      have hcz17_5 : w11.cell? ⟨gb142, 5, none⟩ = some (.int .i64 ((rd_T31 l0 a1).f5)) := (blk_cell BK142.out 5).trans rfl
      have hcz17_6 : w11.cell? ⟨gb142, 6, none⟩ = some (.int .i64 ((rd_T31 l0 a1).f6)) := (blk_cell BK142.out 6).trans rfl
      have hfz17_0 := blk_frozen BK142.out 0
      have hfz17_1 := blk_frozen BK142.out 1
      have hfz17_2 := blk_frozen BK142.out 2
      have hfz17_3 := blk_frozen BK142.out 3
      have hfz17_4 := blk_frozen BK142.out 4
      have hfz17_5 := blk_frozen BK142.out 5
      have hfz17_6 := blk_frozen BK142.out 6
      go_wp2_with (first | (go_at_call 23; (with_reducible refine (quoinref21_Local.calls k ((rd_T31 l0 a1).f3) t146 _ A15.out).mono ?_); rintro e w' ⟨rfl, ⟨nd, rfl⟩⟩))
      go_meet
      case rel => exact ⟨_, (t146), (by first | rfl | (simp; done) | (simp [*]; done)), H', ⟨by first | omega | exact Nat.le_refl _⟩, ⟨by (with_reducible repeat (first | apply Kd.R_alloc | apply Kd.R_drewN | apply Kd.R_drew)); exact Kd.R_mono (Kd.R_far (p := ⟨gb142, 1, none⟩) (Kd.R_types HO145.out BK142.out (by decide)) (fun _ hk => hk.2) (.slice Ao12 y143.length co12)) (fun _ hk => trivial)⟩, ⟨by (with_reducible repeat (first | refine blk_drewN ?_ _ | refine blk_drew ?_ | refine blk_alloc ?_ _)); refine blk_far ?_ NB140_142.out _; (with_reducible repeat (first | refine blk_drewN ?_ _ | refine blk_drew ?_ | refine blk_alloc ?_ _)); exact BK140.out⟩, ⟨by (with_reducible repeat (first | refine blk_drewN ?_ _ | refine blk_drew ?_ | refine blk_alloc ?_ _)); refine blk_put (cs := #[.int .u8 ((rd_T31 l0 a1).f0), .slice A141_1 ((rd_T31 l0 a1).f1).length c141_1, .int .u8 ((rd_T31 l0 a1).f2), .string ((rd_T31 l0 a1).f3), .string ((rd_T31 l0 a1).f4), .int .i64 ((rd_T31 l0 a1).f5), .int .i64 ((rd_T31 l0 a1).f6)]) ?_ 1 _ rfl; (with_reducible repeat (first | refine blk_drewN ?_ _ | refine blk_drew ?_ | refine blk_alloc ?_ _)); exact BK142.out⟩, ⟨by repeat (first | (with_reducible first | exact HB.out | apply below_alloc | apply pw_below_drewN | apply below_drew1 | refine below_set ?_ GE140.out | refine below_set ?_ GE142.out) | exact HB.out)⟩⟩
     ·
      rw [if_neg c14] at H
      have c14b0 : (((rd_T31 l0 a1).f0) == 6) = false := beq_eq_false_iff_ne.mpr c14
      have c14b1 : (((rd_T31 l0 a1).f0) != 6) = true := bne_iff_ne.mpr c14
      (first | rw [c14b0] | (simp only [i64_w, i32_w]; rw [c14b0]) | skip)
      have H' := Aside0.mk H
      clear H
      have hnb18 := NB142_140.out
      have hnc18 := NB140_142.out
      have hcz19_0 : w11.cell? ⟨gb142, 0, none⟩ = some (.int .u8 ((rd_T31 l0 a1).f0)) := (blk_cell BK142.out 0).trans rfl
      have hcz19_1 : w11.cell? ⟨gb142, 1, none⟩ = some (.slice A141_1 ((rd_T31 l0 a1).f1).length c141_1) := (blk_cell BK142.out 1).trans rfl
      have hcz19_2 : w11.cell? ⟨gb142, 2, none⟩ = some (.int .u8 ((rd_T31 l0 a1).f2)) := (blk_cell BK142.out 2).trans rfl
      have hcz19_3 : w11.cell? ⟨gb142, 3, none⟩ = some (.string ((rd_T31 l0 a1).f3)) := (blk_cell BK142.out 3).trans rfl
      have hcz19_4 : w11.cell? ⟨gb142, 4, none⟩ = some (.string ((rd_T31 l0 a1).f4)) := (blk_cell BK142.out 4).trans rfl
      have hcz19_5 : w11.cell? ⟨gb142, 5, none⟩ = some (.int .i64 ((rd_T31 l0 a1).f5)) := (blk_cell BK142.out 5).trans rfl
      have hcz19_6 : w11.cell? ⟨gb142, 6, none⟩ = some (.int .i64 ((rd_T31 l0 a1).f6)) := (blk_cell BK142.out 6).trans rfl
      have hfz19_0 := blk_frozen BK142.out 0
      have hfz19_1 := blk_frozen BK142.out 1
      have hfz19_2 := blk_frozen BK142.out 2
      have hfz19_3 := blk_frozen BK142.out 3
      have hfz19_4 := blk_frozen BK142.out 4
      have hfz19_5 := blk_frozen BK142.out 5
      have hfz19_6 := blk_frozen BK142.out 6
      go_wp2
      go_meet
      case rel => exact ⟨_, (false), (by first | rfl | (simp; done) | (simp [*]; done)), H', ⟨by first | omega | exact Nat.le_refl _⟩, ⟨by (with_reducible repeat (first | apply Kd.R_alloc | apply Kd.R_drewN | apply Kd.R_drew)); exact Kd.R_mono (Kd.R_far (p := ⟨gb142, 1, none⟩) (Kd.R_types HO145.out BK142.out (by decide)) (fun _ hk => hk.2) (.slice Ao12 y143.length co12)) (fun _ hk => trivial)⟩, ⟨by (with_reducible repeat (first | refine blk_drewN ?_ _ | refine blk_drew ?_ | refine blk_alloc ?_ _)); refine blk_far ?_ NB140_142.out _; (with_reducible repeat (first | refine blk_drewN ?_ _ | refine blk_drew ?_ | refine blk_alloc ?_ _)); exact BK140.out⟩, ⟨by (with_reducible repeat (first | refine blk_drewN ?_ _ | refine blk_drew ?_ | refine blk_alloc ?_ _)); refine blk_put (cs := #[.int .u8 ((rd_T31 l0 a1).f0), .slice A141_1 ((rd_T31 l0 a1).f1).length c141_1, .int .u8 ((rd_T31 l0 a1).f2), .string ((rd_T31 l0 a1).f3), .string ((rd_T31 l0 a1).f4), .int .i64 ((rd_T31 l0 a1).f5), .int .i64 ((rd_T31 l0 a1).f6)]) ?_ 1 _ rfl; (with_reducible repeat (first | refine blk_drewN ?_ _ | refine blk_drew ?_ | refine blk_alloc ?_ _)); exact BK142.out⟩, ⟨by repeat (first | (with_reducible first | exact HB.out | apply below_alloc | apply pw_below_drewN | apply below_drew1 | refine below_set ?_ GE140.out | refine below_set ?_ GE142.out) | exact HB.out)⟩⟩
    case rest =>
     clear HC6
     try clear c1
     try clear p1
     try clear q1
     try clear hx1
     try clear c2
     try clear p2
     try clear c3
     try clear c3b0
     try clear c4
     try clear c4b0
     try clear c5
     try clear c9
     try clear c14
     try clear c14b0
     try clear c14b1
     try clear p14
     try clear q14
     try clear hx14
     try clear c16
     try clear c18
     try clear hcz10_0
     try clear hcz10_1
     try clear hcz10_2
     try clear hcz10_3
     try clear hcz10_4
     try clear hcz10_5
     try clear hcz10_6
     try clear hcz13_0
     try clear hcz13_1
     try clear hcz13_2
     try clear hcz13_3
     try clear hcz13_4
     try clear hcz13_5
     try clear hcz13_6
     try clear hcz17_0
     try clear hcz17_1
     try clear hcz17_2
     try clear hcz17_3
     try clear hcz17_4
     try clear hcz17_5
     try clear hcz17_6
     try clear hcz19_0
     try clear hcz19_1
     try clear hcz19_2
     try clear hcz19_3
     try clear hcz19_4
     try clear hcz19_5
     try clear hcz19_6
     try clear hfz10_0
     try clear hfz10_1
     try clear hfz10_2
     try clear hfz10_3
     try clear hfz10_4
     try clear hfz10_5
     try clear hfz10_6
     try clear hfz13_0
     try clear hfz13_1
     try clear hfz13_2
     try clear hfz13_3
     try clear hfz13_4
     try clear hfz13_5
     try clear hfz13_6
     try clear hfz17_0
     try clear hfz17_1
     try clear hfz17_2
     try clear hfz17_3
     try clear hfz17_4
     try clear hfz17_5
     try clear hfz17_6
     try clear hfz19_0
     try clear hfz19_1
     try clear hfz19_2
     try clear hfz19_3
     try clear hfz19_4
     try clear hfz19_5
     try clear hfz19_6
     try clear hx141_0
     try clear hx141_1
     try clear hx141_2
     try clear hx141_3
     try clear hx141_4
     try clear hx141_5
     try clear hx141_6
     try clear p141
     try clear q141
     obtain ⟨kq, x24_5, rfl, HA, HJ5, HO_143001, BK140, BK142, HB⟩ := hcut
     cases kq with
     | zero => exact absurd HA.out (by simp [quoinref21_renamed.j0])
     | succ kj5 =>
      have H := HA.out
      clear HA
      simp only [quoinref21_renamed.j0] at H
      by_cases c20 : x24_5 = true
      ·
       subst c20
       have H1 : ((quoinref21_ahead.f kj5 l0 a1 ((rd_T31 l0 a1).f3)).bind fun t147 => ((quoinref21_Name.f kj5 ((rd_T31 l0 a1).f3) t147).bind fun bt148 => (some (((rd_T31 l0 a1).f0), y143, ((rd_T31 l0 a1).f2), bt148.1, ((rd_T31 l0 a1).f4), ((rd_T31 l0 a1).f5), ((rd_T31 l0 a1).f6), true)))) = some (r1, r2, r3, r4, r5, r6, r7, r8) := by rw [if_pos rfl] at H; exact H
       clear H
       have H := H1
       clear H1
       replace H := Option.bind_eq_some_iff.mp H
       obtain ⟨t147, A210, H⟩ := H
       replace H : ((quoinref21_Name.f kj5 ((rd_T31 l0 a1).f3) t147).bind fun bt148 => (some (((rd_T31 l0 a1).f0), y143, ((rd_T31 l0 a1).f2), bt148.1, ((rd_T31 l0 a1).f4), ((rd_T31 l0 a1).f5), ((rd_T31 l0 a1).f6), true))) = some (r1, r2, r3, r4, r5, r6, r7, r8) := H
       have A21 := Aside0.mk A210
       clear A210
       replace H := Option.bind_eq_some_iff.mp H
       obtain ⟨⟨t148, t149⟩, A220, H⟩ := H
       replace H : (some (((rd_T31 l0 a1).f0), y143, ((rd_T31 l0 a1).f2), t148, ((rd_T31 l0 a1).f4), ((rd_T31 l0 a1).f5), ((rd_T31 l0 a1).f6), true)) = some (r1, r2, r3, r4, r5, r6, r7, r8) := H
       have A22 := Aside0.mk A220
       clear A220
       simp only [Option.some.injEq, Prod.mk.injEq] at H
       obtain ⟨rfl, rfl, rfl, rfl, rfl, rfl, rfl, rfl⟩ := H
       try go_wp2
       have n0_ := Aside0.mk (Kd.R_drew HO_143001.out)
       have n1_ := Aside0.mk (blk_drew BK140.out)
       have n2_ := Aside0.mk (blk_drew BK142.out)
       have n3_ := Aside0.mk (below_drew1 HB.out)
       clear HO_143001
       clear BK140
       clear BK142
       clear HB
       have HO_143001 := n0_
       have BK140 := n1_
       have BK142 := n2_
       have HB := n3_
       clear n0_ n1_ n2_ n3_
       refine start_ (n := 13) (S := fun w' => w'.cell? ⟨gb142, 0, none⟩ = some (.int .u8 ((rd_T31 l0 a1).f0)) ∧ w'.cell? ⟨gb142, 1, none⟩ = some (.slice Ao12 y143.length co12) ∧ w'.cell? ⟨gb142, 2, none⟩ = some (.int .u8 ((rd_T31 l0 a1).f2)) ∧ w'.cell? ⟨gb142, 3, none⟩ = some (.string ((rd_T31 l0 a1).f3)) ∧ w'.cell? ⟨gb142, 4, none⟩ = some (.string ((rd_T31 l0 a1).f4)) ∧ w'.cell? ⟨gb142, 5, none⟩ = some (.int .i64 ((rd_T31 l0 a1).f5)) ∧ w'.cell? ⟨gb142, 6, none⟩ = some (.int .i64 ((rd_T31 l0 a1).f6))) (ds := [12]) #[false, false, false, false, false, false, false, false, false, false, false, false, false] (by kernel_rfl) rfl rfl ⟨(blk_cell BK142.out 0).trans rfl, (blk_cell BK142.out 1).trans rfl, (blk_cell BK142.out 2).trans rfl, (blk_cell BK142.out 3).trans rfl, (blk_cell BK142.out 4).trans rfl, (blk_cell BK142.out 5).trans rfl, (blk_cell BK142.out 6).trans rfl⟩ (fun hHeld => ?_); refine with_tabW quoinref21_renamed.tab4 quoinref21_renamed.bits4 (fun HT_ HW_ => ?_)
       generalize wc.drew = w23 at HO_143001 BK140 BK142 HB hHeld ⊢
       refine pure_ (i := 0) (N := some 26) (v := ?_) (a' := ?_) #[true, false, false, false, false, false, false, false, false, false, false, false, false] rfl rfl (any_of HT_.out (by kernel_rfl)) (fun _ _ _ h => h) (Or.inl ⟨by rfl, ?_⟩) ?_ ?_
       rotate_left
       ·
        intro w'
        go_simp
        with_reducible rfl
       rotate_left
       ·
        simp only [Act.put, List.setIfInBounds_toArray, List.set_cons_zero, List.set_cons_succ, i64_w, i32_w, IntKind.wrap_u8, IntKind.wrap_u32]
        rfl
       refine pure_ (i := 2) (N := some 28) (v := ?_) (a' := ?_) #[true, false, true, false, false, false, false, false, false, false, false, false, false] rfl rfl (any_of HT_.out (by kernel_rfl)) (fun _ _ _ h => h) (Or.inl ⟨by rfl, ?_⟩) ?_ ?_
       rotate_left
       ·
        intro w'
        go_simp
        with_reducible rfl
       rotate_left
       ·
        simp only [Act.put, List.setIfInBounds_toArray, List.set_cons_zero, List.set_cons_succ, i64_w, i32_w, IntKind.wrap_u8, IntKind.wrap_u32]
        rfl
       refine pure_ (i := 3) (N := some 29) (v := ?_) (a' := ?_) #[true, false, true, true, false, false, false, false, false, false, false, false, false] rfl rfl (any_of HT_.out (by kernel_rfl)) (fun _ _ _ h => h) (Or.inl ⟨by rfl, ?_⟩) ?_ ?_
       rotate_left
       ·
        intro w'
        go_simp
        with_reducible rfl
       rotate_left
       ·
        simp only [Act.put, List.setIfInBounds_toArray, List.set_cons_zero, List.set_cons_succ, i64_w, i32_w, IntKind.wrap_u8, IntKind.wrap_u32]
        rfl
       refine pure_ (i := 4) (N := some 30) (v := ?_) (a' := ?_) #[true, false, true, true, true, false, false, false, false, false, false, false, false] rfl rfl (any_of HT_.out (by kernel_rfl)) (fun _ _ _ h => h) (Or.inl ⟨by rfl, ?_⟩) ?_ ?_
       rotate_left
       ·
        intro w'
        go_simp
        with_reducible rfl
       rotate_left
       ·
        simp only [Act.put, List.setIfInBounds_toArray, List.set_cons_zero, List.set_cons_succ, i64_w, i32_w, IntKind.wrap_u8, IntKind.wrap_u32]
        rfl
       refine take_ (i := 1) (N := some 27) (v := ?_) (a' := ?_) #[true, true, true, true, true, false, false, false, false, false, false, false, false] rfl rfl (take_ofW HT_.out HW_.out (by kernel_rfl)) (fun _ _ _ h => h) (Or.inl ⟨by rfl, ?_⟩) hHeld ?_ ?_
       rotate_left
       ·
        rintro w' ⟨s0, s1, s2, s3, s4, s5, s6⟩
        go_simp
        with_reducible rfl
       rotate_left
       ·
        simp only [Act.put, List.setIfInBounds_toArray, List.set_cons_zero, List.set_cons_succ, i64_w, i32_w, IntKind.wrap_u8, IntKind.wrap_u32]
        rfl
       refine take_ (i := 5) (N := some 31) (v := ?_) (a' := ?_) #[true, true, true, true, true, true, false, false, false, false, false, false, false] rfl rfl (take_ofW HT_.out HW_.out (by kernel_rfl)) (fun _ _ _ h => h) (Or.inl ⟨by rfl, ?_⟩) hHeld ?_ ?_
       rotate_left
       ·
        rintro w' ⟨s0, s1, s2, s3, s4, s5, s6⟩
        go_simp
        with_reducible rfl
       rotate_left
       ·
        simp only [Act.put, List.setIfInBounds_toArray, List.set_cons_zero, List.set_cons_succ, i64_w, i32_w, IntKind.wrap_u8, IntKind.wrap_u32]
        rfl
       refine one_ (i := 6) (N := some 32) #[true, true, true, true, true, true, true, false, false, false, false, false, false] rfl rfl (one_of HT_.out (by kernel_rfl)) (by decide) (fun K hK => ?_)
       refine goes_ Tryd.func30 (by kernel_rfl) rfl #[.slice (some ad141) l0.length c0, .int .i64 a1, .string ((rd_T31 l0 a1).f3)] (by rfl) rfl rfl (by (try simp only [List.map_toArray, List.map_cons, List.map_nil]); first | done | rfl | (simp only [List.length_drop, List.length_take]; rfl)) ?_
       with_reducible refine (quoinref21_ahead.calls kj5 _ _ l0 a1 ((rd_T31 l0 a1).f3) t147 _ ?side1 ?side2 A21.out).mono ?_
       (case side1 => repeat (first | exact (Kd.C_below HR0.out HB.out) | (with_reducible refine Kd.C_alloc ?_ _) | (with_reducible refine Kd.C_drewN ?_ _) | (with_reducible refine Kd.C_drew ?_)))
       (case side2 => exact HC0.out)
       rintro e w24 ⟨rfl, hb⟩
       refine ⟨_, rfl, ?_⟩
       have n0_ := Aside0.mk (Kd.R_below (by (with_reducible repeat (first | apply Kd.R_alloc | apply Kd.R_drewN | apply Kd.R_drew)); exact HO_143001.out) hb)
       have n1_ := Aside0.mk (blk_below (g := gb140) (o := .cells #[.int .u8 0, .slice none 0 0, .int .u8 0, .string (⟨#[]⟩ : ByteArray), .string (⟨#[]⟩ : ByteArray), .int .i64 0, .int .i64 0] 31 (0, 0)) (by (with_reducible repeat (first | refine blk_drewN ?_ _ | refine blk_drew ?_ | refine blk_alloc ?_ _)); exact BK140.out) hb)
       have n2_ := Aside0.mk (blk_below (g := gb142) (o := .cells #[.int .u8 ((rd_T31 l0 a1).f0), .slice Ao12 y143.length co12, .int .u8 ((rd_T31 l0 a1).f2), .string ((rd_T31 l0 a1).f3), .string ((rd_T31 l0 a1).f4), .int .i64 ((rd_T31 l0 a1).f5), .int .i64 ((rd_T31 l0 a1).f6)] 31 (0, 0)) (by (with_reducible repeat (first | refine blk_drewN ?_ _ | refine blk_drew ?_ | refine blk_alloc ?_ _)); exact BK142.out) hb)
       have n3_ := Aside0.mk (below_step (by repeat (first | (with_reducible first | exact HB.out | apply below_alloc | apply pw_below_drewN | apply below_drew1 | refine below_set ?_ GE140.out | refine below_set ?_ GE142.out) | exact HB.out)) hb)
       clear HO_143001
       clear BK140
       clear BK142
       clear HB
       have HO_143001 := n0_
       have BK140 := n1_
       have BK142 := n2_
       have HB := n3_
       clear n0_ n1_ n2_ n3_
       (try clear hb)
       (try clear hb2)
       (try clear hk)
       (try clear hi)
       refine hK.out _ _ ⟨(blk_cell BK142.out 0).trans rfl, (blk_cell BK142.out 1).trans rfl, (blk_cell BK142.out 2).trans rfl, (blk_cell BK142.out 3).trans rfl, (blk_cell BK142.out 4).trans rfl, (blk_cell BK142.out 5).trans rfl, (blk_cell BK142.out 6).trans rfl⟩ (fun hHeld => ?_)
       clear hK K
       refine norm_ (a' := ?_) ?_ ?_
       rotate_left
       ·
        show Act.put _ (some 32) _ = _
        simp only [Act.put, List.setIfInBounds_toArray, List.set_cons_zero, List.set_cons_succ, i64_w, i32_w, IntKind.wrap_u8, IntKind.wrap_u32]
        rfl
       refine one_ (i := 7) (N := some 33) #[true, true, true, true, true, true, true, true, false, false, false, false, false] rfl rfl (one_of HT_.out (by kernel_rfl)) (by decide) (fun K hK => ?_)
       refine goes_ Tryd.func18 (by kernel_rfl) rfl #[.string ((rd_T31 l0 a1).f3), .int .i64 t147] (by rfl) rfl rfl (by (try simp only [List.map_toArray, List.map_cons, List.map_nil]); first | done | rfl | (simp only [List.length_drop, List.length_take]; rfl)) ?_
       with_reducible refine (quoinref21_Name.calls kj5 ((rd_T31 l0 a1).f3) t147 t148 t149 _ A22.out).mono ?_
       rintro e w' ⟨rfl, ⟨nd, rfl⟩⟩
       refine ⟨_, rfl, ?_⟩
       refine hK.out _ _ ⟨(blk_cell BK142.out 0).trans rfl, (blk_cell BK142.out 1).trans rfl, (blk_cell BK142.out 2).trans rfl, (blk_cell BK142.out 3).trans rfl, (blk_cell BK142.out 4).trans rfl, (blk_cell BK142.out 5).trans rfl, (blk_cell BK142.out 6).trans rfl⟩ (fun hHeld => ?_)
       clear hK K
       refine norm_ (a' := ?_) ?_ ?_
       rotate_left
       ·
        show Act.put _ (some 33) _ = _
        simp only [Act.put, List.setIfInBounds_toArray, List.set_cons_zero, List.set_cons_succ, i64_w, i32_w, IntKind.wrap_u8, IntKind.wrap_u32]
        rfl
       refine pure_ (i := 8) (N := some 25) (v := ?_) (a' := ?_) #[true, true, true, true, true, true, true, true, true, false, false, false, false] rfl rfl (any_of HT_.out (by kernel_rfl)) (fun _ _ _ h => h) (Or.inl ⟨by rfl, ?_⟩) ?_ ?_
       rotate_left
       ·
        intro w'
        go_simp
        with_reducible rfl
       rotate_left
       ·
        simp only [Act.put, List.setIfInBounds_toArray, List.set_cons_zero, List.set_cons_succ, i64_w, i32_w, IntKind.wrap_u8, IntKind.wrap_u32]
        rfl
       refine pure_ (i := 9) (N := some 34) (v := ?_) (a' := ?_) #[true, true, true, true, true, true, true, true, true, true, false, false, false] rfl rfl (any_of HT_.out (by kernel_rfl)) (fun _ _ _ h => h) (Or.inl ⟨by rfl, ?_⟩) ?_ ?_
       rotate_left
       ·
        intro w'
        go_simp
        with_reducible rfl
       rotate_left
       ·
        simp only [Act.put, List.setIfInBounds_toArray, List.set_cons_zero, List.set_cons_succ, i64_w, i32_w, IntKind.wrap_u8, IntKind.wrap_u32]
        rfl
       refine pure_ (i := 10) (N := some 35) (v := ?_) (a' := ?_) #[true, true, true, true, true, true, true, true, true, true, true, false, false] rfl rfl (any_of HT_.out (by kernel_rfl)) (fun _ _ _ h => h) (Or.inl ⟨by rfl, ?_⟩) ?_ ?_
       rotate_left
       ·
        intro w'
        go_simp
        with_reducible rfl
       rotate_left
       ·
        simp only [Act.put, List.setIfInBounds_toArray, List.set_cons_zero, List.set_cons_succ, i64_w, i32_w, IntKind.wrap_u8, IntKind.wrap_u32]
        rfl
       refine pure_ (i := 11) (N := some 36) (v := ?_) (a' := ?_) #[true, true, true, true, true, true, true, true, true, true, true, true, false] rfl rfl (any_of HT_.out (by kernel_rfl)) (fun _ _ _ h => h) (Or.inl ⟨by rfl, ?_⟩) ?_ ?_
       rotate_left
       ·
        intro w'
        go_simp
        with_reducible rfl
       rotate_left
       ·
        simp only [Act.put, List.setIfInBounds_toArray, List.set_cons_zero, List.set_cons_succ, i64_w, i32_w, IntKind.wrap_u8, IntKind.wrap_u32]
        rfl
       refine last_ (i := 12) (N := none) #[true, true, true, true, true, true, true, true, true, true, true, true, true] rfl rfl (one_of HT_.out (by kernel_rfl)) (by decide) (fun K hK => ?_)
       have hs25 : w24.cell? ⟨gb142, 3, none⟩ = some (.string ((rd_T31 l0 a1).f3)) := (blk_cell BK142.out 3).trans rfl
       have hfs25 := blk_frozen BK142.out 3
       have hns25_0 := NB140_142.out
       have hms25_0 := NB142_140.out
       refine skip_ (w1 := ?_) (by rfl) rfl ?_ ?_
       rotate_left
       ·
        go_simp
        rfl
       refine hK.out _ _ ?_
       clear hK K
       refine done_ (done_of HT_.out (by kernel_rfl)) ?_
       have hnb26 := NB142_140.out
       have hnc26 := NB140_142.out
       have hcz27_0 : w24.cell? ⟨gb142, 0, none⟩ = some (.int .u8 ((rd_T31 l0 a1).f0)) := (blk_cell BK142.out 0).trans rfl
       have hcz27_1 : w24.cell? ⟨gb142, 1, none⟩ = some (.slice Ao12 y143.length co12) := (blk_cell BK142.out 1).trans rfl
       have hcz27_2 : w24.cell? ⟨gb142, 2, none⟩ = some (.int .u8 ((rd_T31 l0 a1).f2)) := (blk_cell BK142.out 2).trans rfl
       have hcz27_3 : w24.cell? ⟨gb142, 3, none⟩ = some (.string ((rd_T31 l0 a1).f3)) := (blk_cell BK142.out 3).trans rfl
       have hcz27_4 : w24.cell? ⟨gb142, 4, none⟩ = some (.string ((rd_T31 l0 a1).f4)) := (blk_cell BK142.out 4).trans rfl
       have hcz27_5 : w24.cell? ⟨gb142, 5, none⟩ = some (.int .i64 ((rd_T31 l0 a1).f5)) := (blk_cell BK142.out 5).trans rfl
       have hcz27_6 : w24.cell? ⟨gb142, 6, none⟩ = some (.int .i64 ((rd_T31 l0 a1).f6)) := (blk_cell BK142.out 6).trans rfl
       have hfz27_0 := blk_frozen BK142.out 0
       have hfz27_1 := blk_frozen BK142.out 1
       have hfz27_2 := blk_frozen BK142.out 2
       have hfz27_3 := blk_frozen BK142.out 3
       have hfz27_4 := blk_frozen BK142.out 4
       have hfz27_5 := blk_frozen BK142.out 5
       have hfz27_6 := blk_frozen BK142.out 6
       have hcz28_0 : w24.cell? ⟨gb140, 0, none⟩ = some (.int .u8 0) := (blk_cell BK140.out 0).trans rfl
       have hcz28_1 : w24.cell? ⟨gb140, 1, none⟩ = some (.slice none 0 0) := (blk_cell BK140.out 1).trans rfl
       have hcz28_2 : w24.cell? ⟨gb140, 2, none⟩ = some (.int .u8 0) := (blk_cell BK140.out 2).trans rfl
       have hcz28_3 : w24.cell? ⟨gb140, 3, none⟩ = some (.string (⟨#[]⟩ : ByteArray)) := (blk_cell BK140.out 3).trans rfl
       have hcz28_4 : w24.cell? ⟨gb140, 4, none⟩ = some (.string (⟨#[]⟩ : ByteArray)) := (blk_cell BK140.out 4).trans rfl
       have hcz28_5 : w24.cell? ⟨gb140, 5, none⟩ = some (.int .i64 0) := (blk_cell BK140.out 5).trans rfl
       have hcz28_6 : w24.cell? ⟨gb140, 6, none⟩ = some (.int .i64 0) := (blk_cell BK140.out 6).trans rfl
       have hfz28_0 := blk_frozen BK140.out 0
       have hfz28_1 := blk_frozen BK140.out 1
       have hfz28_2 := blk_frozen BK140.out 2
       have hfz28_3 := blk_frozen BK140.out 3
       have hfz28_4 := blk_frozen BK140.out 4
       have hfz28_5 := blk_frozen BK140.out 5
       have hfz28_6 := blk_frozen BK140.out 6
       try go_wp2
       refine bodyPost_ret (results_ct rfl _ _ gb140 31 #[.int .u8 ((rd_T31 l0 a1).f0), .slice Ao12 y143.length co12, .int .u8 ((rd_T31 l0 a1).f2), .string t148, .string ((rd_T31 l0 a1).f4), .int .i64 ((rd_T31 l0 a1).f5), .int .i64 ((rd_T31 l0 a1).f6)] (0, 0) _ rfl (by (with_reducible repeat (first | refine blk_drewN ?_ _ | refine blk_drew ?_ | refine blk_alloc ?_ _)); refine blk_put (cs := #[.int .u8 ((rd_T31 l0 a1).f0), .slice Ao12 y143.length co12, .int .u8 ((rd_T31 l0 a1).f2), .string t148, .string ((rd_T31 l0 a1).f4), .int .i64 ((rd_T31 l0 a1).f5), .int .i64 0]) ?_ 6 _ rfl; (with_reducible repeat (first | refine blk_drewN ?_ _ | refine blk_drew ?_ | refine blk_alloc ?_ _)); refine blk_put (cs := #[.int .u8 ((rd_T31 l0 a1).f0), .slice Ao12 y143.length co12, .int .u8 ((rd_T31 l0 a1).f2), .string t148, .string ((rd_T31 l0 a1).f4), .int .i64 0, .int .i64 0]) ?_ 5 _ rfl; (with_reducible repeat (first | refine blk_drewN ?_ _ | refine blk_drew ?_ | refine blk_alloc ?_ _)); refine blk_put (cs := #[.int .u8 ((rd_T31 l0 a1).f0), .slice Ao12 y143.length co12, .int .u8 ((rd_T31 l0 a1).f2), .string t148, .string (⟨#[]⟩ : ByteArray), .int .i64 0, .int .i64 0]) ?_ 4 _ rfl; (with_reducible repeat (first | refine blk_drewN ?_ _ | refine blk_drew ?_ | refine blk_alloc ?_ _)); refine blk_put (cs := #[.int .u8 ((rd_T31 l0 a1).f0), .slice Ao12 y143.length co12, .int .u8 ((rd_T31 l0 a1).f2), .string (⟨#[]⟩ : ByteArray), .string (⟨#[]⟩ : ByteArray), .int .i64 0, .int .i64 0]) ?_ 3 _ rfl; (with_reducible repeat (first | refine blk_drewN ?_ _ | refine blk_drew ?_ | refine blk_alloc ?_ _)); refine blk_put (cs := #[.int .u8 ((rd_T31 l0 a1).f0), .slice Ao12 y143.length co12, .int .u8 0, .string (⟨#[]⟩ : ByteArray), .string (⟨#[]⟩ : ByteArray), .int .i64 0, .int .i64 0]) ?_ 2 _ rfl; (with_reducible repeat (first | refine blk_drewN ?_ _ | refine blk_drew ?_ | refine blk_alloc ?_ _)); refine blk_put (cs := #[.int .u8 ((rd_T31 l0 a1).f0), .slice none 0 0, .int .u8 0, .string (⟨#[]⟩ : ByteArray), .string (⟨#[]⟩ : ByteArray), .int .i64 0, .int .i64 0]) ?_ 1 _ rfl; (with_reducible repeat (first | refine blk_drewN ?_ _ | refine blk_drew ?_ | refine blk_alloc ?_ _)); refine blk_put (cs := #[.int .u8 0, .slice none 0 0, .int .u8 0, .string (⟨#[]⟩ : ByteArray), .string (⟨#[]⟩ : ByteArray), .int .i64 0, .int .i64 0]) ?_ 0 _ rfl; (with_reducible repeat (first | refine blk_drewN ?_ _ | refine blk_drew ?_ | refine blk_alloc ?_ _)); refine blk_far ?_ NB140_142.out _; (with_reducible repeat (first | refine blk_drewN ?_ _ | refine blk_drew ?_ | refine blk_alloc ?_ _)); exact BK140.out) Tryd.underlying31 rfl (by kernel_rfl)) rfl ?_
       exact ⟨_, by first | rfl | (simp [errW_none, errW_some] <;> rfl) | (simp [*, errW_none, errW_some] <;> rfl), by (with_reducible repeat (first | apply Kd.R_alloc | apply Kd.R_drewN | apply Kd.R_drew)); exact Kd.R_mono (Kd.R_far (p := ⟨gb140, 6, none⟩) (Kd.R_far (p := ⟨gb140, 5, none⟩) (Kd.R_far (p := ⟨gb140, 4, none⟩) (Kd.R_far (p := ⟨gb140, 3, none⟩) (Kd.R_far (p := ⟨gb140, 2, none⟩) (Kd.R_far (p := ⟨gb140, 1, none⟩) (Kd.R_far (p := ⟨gb140, 0, none⟩) (Kd.R_far (p := ⟨gb142, 3, none⟩) (Kd.R_types (Kd.R_types HO_143001.out BK142.out (by decide)) BK140.out (by decide)) (fun _ hk => hk.1.2) (.string t148)) (fun _ hk => hk.2) (.int .u8 ((rd_T31 l0 a1).f0))) (fun _ hk => hk.2) (.slice Ao12 y143.length co12)) (fun _ hk => hk.2) (.int .u8 ((rd_T31 l0 a1).f2))) (fun _ hk => hk.2) (.string t148)) (fun _ hk => hk.2) (.string ((rd_T31 l0 a1).f4))) (fun _ hk => hk.2) (.int .i64 ((rd_T31 l0 a1).f5))) (fun _ hk => hk.2) (.int .i64 ((rd_T31 l0 a1).f6))) (fun _ hk => trivial), by repeat (first | (with_reducible first | exact HB.out | apply below_alloc | apply pw_below_drewN | apply below_drew1 | refine below_set ?_ GE140.out | refine below_set ?_ GE142.out) | exact HB.out)⟩
      ·
       replace c20 := Bool.eq_false_iff.mpr c20
       (try subst c20)
       have H1 : (if ((rd_T31 l0 a1).f0) = 1 then (quoinref21_renamed.j1 kj5 l0 a1 true true true ((rd_T31 l0 a1).f0) y143 ((rd_T31 l0 a1).f2) ((rd_T31 l0 a1).f3) ((rd_T31 l0 a1).f4) ((rd_T31 l0 a1).f5) ((rd_T31 l0 a1).f6)) else (quoinref21_renamed.j1 kj5 l0 a1 true true (((rd_T31 l0 a1).f0) == 3) ((rd_T31 l0 a1).f0) y143 ((rd_T31 l0 a1).f2) ((rd_T31 l0 a1).f3) ((rd_T31 l0 a1).f4) ((rd_T31 l0 a1).f5) ((rd_T31 l0 a1).f6))) = some (r1, r2, r3, r4, r5, r6, r7, r8) := by first | (rw [if_neg (show ¬ (false = true) by decide)] at H; exact H) | exact absurd c20 (by decide)
       clear H
       have H := H1
       clear H1
       have HC29 := Aside0.mk H
       clear H
       go_upto_region 7 with (fail)
       go_cut [45] (fun v45 wc => ∃ (kq : Nat) (x45_28 : Bool), v45 = .bool x45_28 ∧ Aside0 (quoinref21_renamed.j1 kq l0 a1 true true x45_28 ((rd_T31 l0 a1).f0) y143 ((rd_T31 l0 a1).f2) ((rd_T31 l0 a1).f3) ((rd_T31 l0 a1).f4) ((rd_T31 l0 a1).f5) ((rd_T31 l0 a1).f6) = some (r1, r2, r3, r4, r5, r6, r7, r8)) ∧ Aside0 (kq ≤ kj5) ∧ Aside0 (Kd.R (Kd.int .u8) 5 wc w.heap.size (fun _ => True) (.slice Ao12 y143.length co12) y143) ∧ Aside0 (wc.heap[gb140]? = some (.cells #[.int .u8 0, (.slice none 0 0), .int .u8 0, .string (⟨#[]⟩ : ByteArray), .string (⟨#[]⟩ : ByteArray), .int .i64 0, .int .i64 0] 31 (0, 0))) ∧ Aside0 (wc.heap[gb142]? = some (.cells #[.int .u8 ((rd_T31 l0 a1).f0), (.slice Ao12 y143.length co12), .int .u8 ((rd_T31 l0 a1).f2), .string ((rd_T31 l0 a1).f3), .string ((rd_T31 l0 a1).f4), .int .i64 ((rd_T31 l0 a1).f5), .int .i64 ((rd_T31 l0 a1).f6)] 31 (0, 0))) ∧ Aside0 (Below w.heap.size w wc))
       case first =>
        have H := HC29.out
        clear HC29
        by_cases c30 : ((rd_T31 l0 a1).f0) = 1
        ·
         rw [if_pos c30] at H
         have c30b0 : (((rd_T31 l0 a1).f0) == 1) = true := beq_iff_eq.mpr c30
         have c30b1 : (((rd_T31 l0 a1).f0) != 1) = false := bne_eq_false_iff_eq.mpr c30
         clear c30
         (first | rw [c30b0] | (simp only [i64_w, i32_w]; rw [c30b0]) | skip)
         have H' := Aside0.mk H
         clear H
         have hnb31 := NB142_140.out
         have hnc31 := NB140_142.out
         have hcz32_0 : wc.cell? ⟨gb142, 0, none⟩ = some (.int .u8 ((rd_T31 l0 a1).f0)) := (blk_cell BK142.out 0).trans rfl
         have hcz32_1 : wc.cell? ⟨gb142, 1, none⟩ = some (.slice Ao12 y143.length co12) := (blk_cell BK142.out 1).trans rfl
         have hcz32_2 : wc.cell? ⟨gb142, 2, none⟩ = some (.int .u8 ((rd_T31 l0 a1).f2)) := (blk_cell BK142.out 2).trans rfl
         have hcz32_3 : wc.cell? ⟨gb142, 3, none⟩ = some (.string ((rd_T31 l0 a1).f3)) := (blk_cell BK142.out 3).trans rfl
         have hcz32_4 : wc.cell? ⟨gb142, 4, none⟩ = some (.string ((rd_T31 l0 a1).f4)) := (blk_cell BK142.out 4).trans rfl
         have hcz32_5 : wc.cell? ⟨gb142, 5, none⟩ = some (.int .i64 ((rd_T31 l0 a1).f5)) := (blk_cell BK142.out 5).trans rfl
         have hcz32_6 : wc.cell? ⟨gb142, 6, none⟩ = some (.int .i64 ((rd_T31 l0 a1).f6)) := (blk_cell BK142.out 6).trans rfl
         have hfz32_0 := blk_frozen BK142.out 0
         have hfz32_1 := blk_frozen BK142.out 1
         have hfz32_2 := blk_frozen BK142.out 2
         have hfz32_3 := blk_frozen BK142.out 3
         have hfz32_4 := blk_frozen BK142.out 4
         have hfz32_5 := blk_frozen BK142.out 5
         have hfz32_6 := blk_frozen BK142.out 6
         go_wp2
         go_meet
         case rel => exact ⟨_, (true), (by first | rfl | (simp; done) | (simp [*]; done)), H', ⟨by have := HJ5.out; first | omega | exact Nat.le_refl _⟩, ⟨by (with_reducible repeat (first | apply Kd.R_alloc | apply Kd.R_drewN | apply Kd.R_drew)); exact HO_143001.out⟩, ⟨by (with_reducible repeat (first | refine blk_drewN ?_ _ | refine blk_drew ?_ | refine blk_alloc ?_ _)); exact BK140.out⟩, ⟨by (with_reducible repeat (first | refine blk_drewN ?_ _ | refine blk_drew ?_ | refine blk_alloc ?_ _)); exact BK142.out⟩, ⟨by repeat (first | (with_reducible first | exact HB.out | apply below_alloc | apply pw_below_drewN | apply below_drew1 | refine below_set ?_ GE140.out | refine below_set ?_ GE142.out) | exact HB.out)⟩⟩
        ·
         rw [if_neg c30] at H
         have c30b0 : (((rd_T31 l0 a1).f0) == 1) = false := beq_eq_false_iff_ne.mpr c30
         have c30b1 : (((rd_T31 l0 a1).f0) != 1) = true := bne_iff_ne.mpr c30
         (first | rw [c30b0] | (simp only [i64_w, i32_w]; rw [c30b0]) | skip)
         have H' := Aside0.mk H
         clear H
         have hnb33 := NB142_140.out
         have hnc33 := NB140_142.out
         have hcz34_0 : wc.cell? ⟨gb142, 0, none⟩ = some (.int .u8 ((rd_T31 l0 a1).f0)) := (blk_cell BK142.out 0).trans rfl
         have hcz34_1 : wc.cell? ⟨gb142, 1, none⟩ = some (.slice Ao12 y143.length co12) := (blk_cell BK142.out 1).trans rfl
         have hcz34_2 : wc.cell? ⟨gb142, 2, none⟩ = some (.int .u8 ((rd_T31 l0 a1).f2)) := (blk_cell BK142.out 2).trans rfl
         have hcz34_3 : wc.cell? ⟨gb142, 3, none⟩ = some (.string ((rd_T31 l0 a1).f3)) := (blk_cell BK142.out 3).trans rfl
         have hcz34_4 : wc.cell? ⟨gb142, 4, none⟩ = some (.string ((rd_T31 l0 a1).f4)) := (blk_cell BK142.out 4).trans rfl
         have hcz34_5 : wc.cell? ⟨gb142, 5, none⟩ = some (.int .i64 ((rd_T31 l0 a1).f5)) := (blk_cell BK142.out 5).trans rfl
         have hcz34_6 : wc.cell? ⟨gb142, 6, none⟩ = some (.int .i64 ((rd_T31 l0 a1).f6)) := (blk_cell BK142.out 6).trans rfl
         have hfz34_0 := blk_frozen BK142.out 0
         have hfz34_1 := blk_frozen BK142.out 1
         have hfz34_2 := blk_frozen BK142.out 2
         have hfz34_3 := blk_frozen BK142.out 3
         have hfz34_4 := blk_frozen BK142.out 4
         have hfz34_5 := blk_frozen BK142.out 5
         have hfz34_6 := blk_frozen BK142.out 6
         go_wp2
         go_meet
         case rel => exact ⟨_, ((((rd_T31 l0 a1).f0) == 3)), (by first | rfl | (simp; done) | (simp [*]; done)), H', ⟨by have := HJ5.out; first | omega | exact Nat.le_refl _⟩, ⟨by (with_reducible repeat (first | apply Kd.R_alloc | apply Kd.R_drewN | apply Kd.R_drew)); exact HO_143001.out⟩, ⟨by (with_reducible repeat (first | refine blk_drewN ?_ _ | refine blk_drew ?_ | refine blk_alloc ?_ _)); exact BK140.out⟩, ⟨by (with_reducible repeat (first | refine blk_drewN ?_ _ | refine blk_drew ?_ | refine blk_alloc ?_ _)); exact BK142.out⟩, ⟨by repeat (first | (with_reducible first | exact HB.out | apply below_alloc | apply pw_below_drewN | apply below_drew1 | refine below_set ?_ GE140.out | refine below_set ?_ GE142.out) | exact HB.out)⟩⟩
       case rest =>
        clear HC29
        try clear c1
        try clear p1
        try clear q1
        try clear hx1
        try clear c2
        try clear p2
        try clear c3
        try clear c3b0
        try clear c4
        try clear c4b0
        try clear c5
        try clear c9
        try clear c14
        try clear c14b0
        try clear c14b1
        try clear p14
        try clear q14
        try clear hx14
        try clear c16
        try clear c18
        try clear c20
        try clear c25
        try clear c26
        try clear c30
        try clear c30b0
        try clear c30b1
        try clear c31
        try clear c33
        try clear hcz10_0
        try clear hcz10_1
        try clear hcz10_2
        try clear hcz10_3
        try clear hcz10_4
        try clear hcz10_5
        try clear hcz10_6
        try clear hcz13_0
        try clear hcz13_1
        try clear hcz13_2
        try clear hcz13_3
        try clear hcz13_4
        try clear hcz13_5
        try clear hcz13_6
        try clear hcz17_0
        try clear hcz17_1
        try clear hcz17_2
        try clear hcz17_3
        try clear hcz17_4
        try clear hcz17_5
        try clear hcz17_6
        try clear hcz19_0
        try clear hcz19_1
        try clear hcz19_2
        try clear hcz19_3
        try clear hcz19_4
        try clear hcz19_5
        try clear hcz19_6
        try clear hcz27_0
        try clear hcz27_1
        try clear hcz27_2
        try clear hcz27_3
        try clear hcz27_4
        try clear hcz27_5
        try clear hcz27_6
        try clear hcz28_0
        try clear hcz28_1
        try clear hcz28_2
        try clear hcz28_3
        try clear hcz28_4
        try clear hcz28_5
        try clear hcz28_6
        try clear hcz32_0
        try clear hcz32_1
        try clear hcz32_2
        try clear hcz32_3
        try clear hcz32_4
        try clear hcz32_5
        try clear hcz32_6
        try clear hcz34_0
        try clear hcz34_1
        try clear hcz34_2
        try clear hcz34_3
        try clear hcz34_4
        try clear hcz34_5
        try clear hcz34_6
        try clear hfz10_0
        try clear hfz10_1
        try clear hfz10_2
        try clear hfz10_3
        try clear hfz10_4
        try clear hfz10_5
        try clear hfz10_6
        try clear hfz13_0
        try clear hfz13_1
        try clear hfz13_2
        try clear hfz13_3
        try clear hfz13_4
        try clear hfz13_5
        try clear hfz13_6
        try clear hfz17_0
        try clear hfz17_1
        try clear hfz17_2
        try clear hfz17_3
        try clear hfz17_4
        try clear hfz17_5
        try clear hfz17_6
        try clear hfz19_0
        try clear hfz19_1
        try clear hfz19_2
        try clear hfz19_3
        try clear hfz19_4
        try clear hfz19_5
        try clear hfz19_6
        try clear hfz27_0
        try clear hfz27_1
        try clear hfz27_2
        try clear hfz27_3
        try clear hfz27_4
        try clear hfz27_5
        try clear hfz27_6
        try clear hfz28_0
        try clear hfz28_1
        try clear hfz28_2
        try clear hfz28_3
        try clear hfz28_4
        try clear hfz28_5
        try clear hfz28_6
        try clear hfz32_0
        try clear hfz32_1
        try clear hfz32_2
        try clear hfz32_3
        try clear hfz32_4
        try clear hfz32_5
        try clear hfz32_6
        try clear hfz34_0
        try clear hfz34_1
        try clear hfz34_2
        try clear hfz34_3
        try clear hfz34_4
        try clear hfz34_5
        try clear hfz34_6
        try clear hx141_0
        try clear hx141_1
        try clear hx141_2
        try clear hx141_3
        try clear hx141_4
        try clear hx141_5
        try clear hx141_6
        try clear p1
        try clear p14
        try clear p141
        try clear p2
        try clear q1
        try clear q14
        try clear q141
        obtain ⟨kq, x45_28, rfl, HA, HJ28, HO_143001, BK140, BK142, HB⟩ := hcut
        cases kq with
        | zero => exact absurd HA.out (by simp [quoinref21_renamed.j1])
        | succ kj28 =>
         have H := HA.out
         clear HA
         simp only [quoinref21_renamed.j1] at H
         by_cases c35 : x45_28 = true
         ·
          subst c35
          have H1 : ((quoinref21_field.f kj28 l0 a1 ((rd_T31 l0 a1).f3)).bind fun bt150 => (if ((rd_T31 l0 a1).f0) = 3 then ((quoinref21_field.f kj28 l0 a1 ((rd_T31 l0 a1).f4)).bind fun bt152 => (if bt150.2 = true then (some (((rd_T31 l0 a1).f0), y143, ((rd_T31 l0 a1).f2), bt150.1, bt152.1, ((rd_T31 l0 a1).f5), ((rd_T31 l0 a1).f6), bt152.2)) else (some (((rd_T31 l0 a1).f0), y143, ((rd_T31 l0 a1).f2), bt150.1, bt152.1, ((rd_T31 l0 a1).f5), ((rd_T31 l0 a1).f6), false)))) else (if bt150.2 = true then (some (((rd_T31 l0 a1).f0), y143, ((rd_T31 l0 a1).f2), bt150.1, ((rd_T31 l0 a1).f4), ((rd_T31 l0 a1).f5), ((rd_T31 l0 a1).f6), true)) else (some (((rd_T31 l0 a1).f0), y143, ((rd_T31 l0 a1).f2), bt150.1, ((rd_T31 l0 a1).f4), ((rd_T31 l0 a1).f5), ((rd_T31 l0 a1).f6), false))))) = some (r1, r2, r3, r4, r5, r6, r7, r8) := by rw [if_pos rfl] at H; exact H
          clear H
          have H := H1
          clear H1
          replace H := Option.bind_eq_some_iff.mp H
          obtain ⟨⟨t150, t151⟩, A360, H⟩ := H
          replace H : (if ((rd_T31 l0 a1).f0) = 3 then ((quoinref21_field.f kj28 l0 a1 ((rd_T31 l0 a1).f4)).bind fun bt152 => (if t151 = true then (some (((rd_T31 l0 a1).f0), y143, ((rd_T31 l0 a1).f2), t150, bt152.1, ((rd_T31 l0 a1).f5), ((rd_T31 l0 a1).f6), bt152.2)) else (some (((rd_T31 l0 a1).f0), y143, ((rd_T31 l0 a1).f2), t150, bt152.1, ((rd_T31 l0 a1).f5), ((rd_T31 l0 a1).f6), false)))) else (if t151 = true then (some (((rd_T31 l0 a1).f0), y143, ((rd_T31 l0 a1).f2), t150, ((rd_T31 l0 a1).f4), ((rd_T31 l0 a1).f5), ((rd_T31 l0 a1).f6), true)) else (some (((rd_T31 l0 a1).f0), y143, ((rd_T31 l0 a1).f2), t150, ((rd_T31 l0 a1).f4), ((rd_T31 l0 a1).f5), ((rd_T31 l0 a1).f6), false)))) = some (r1, r2, r3, r4, r5, r6, r7, r8) := H
          have A36 := Aside0.mk A360
          clear A360
          by_cases c37 : ((rd_T31 l0 a1).f0) = 3
          ·
           rw [if_pos c37] at H
           have c37b0 : (((rd_T31 l0 a1).f0) == 3) = true := beq_iff_eq.mpr c37
           have c37b1 : (((rd_T31 l0 a1).f0) != 3) = false := bne_eq_false_iff_eq.mpr c37
           clear c37
           replace H := Option.bind_eq_some_iff.mp H
           obtain ⟨⟨t152, t153⟩, A380, H⟩ := H
           replace H : (if t151 = true then (some (((rd_T31 l0 a1).f0), y143, ((rd_T31 l0 a1).f2), t150, t152, ((rd_T31 l0 a1).f5), ((rd_T31 l0 a1).f6), t153)) else (some (((rd_T31 l0 a1).f0), y143, ((rd_T31 l0 a1).f2), t150, t152, ((rd_T31 l0 a1).f5), ((rd_T31 l0 a1).f6), false))) = some (r1, r2, r3, r4, r5, r6, r7, r8) := H
           have A38 := Aside0.mk A380
           clear A380
           by_cases c39 : t151 = true
           ·
            subst c39
            have H1 : (some (((rd_T31 l0 a1).f0), y143, ((rd_T31 l0 a1).f2), t150, t152, ((rd_T31 l0 a1).f5), ((rd_T31 l0 a1).f6), t153)) = some (r1, r2, r3, r4, r5, r6, r7, r8) := by rw [if_pos rfl] at H; exact H
            clear H
            have H := H1
            clear H1
            simp only [Option.some.injEq, Prod.mk.injEq] at H
            obtain ⟨rfl, rfl, rfl, rfl, rfl, rfl, rfl, rfl⟩ := H
            have hnb40 := NB142_140.out
            have hnc40 := NB140_142.out
            have hcz41_0 : wc.cell? ⟨gb142, 0, none⟩ = some (.int .u8 ((rd_T31 l0 a1).f0)) := (blk_cell BK142.out 0).trans rfl
            have hcz41_1 : wc.cell? ⟨gb142, 1, none⟩ = some (.slice Ao12 y143.length co12) := (blk_cell BK142.out 1).trans rfl
            have hcz41_2 : wc.cell? ⟨gb142, 2, none⟩ = some (.int .u8 ((rd_T31 l0 a1).f2)) := (blk_cell BK142.out 2).trans rfl
            have hcz41_3 : wc.cell? ⟨gb142, 3, none⟩ = some (.string ((rd_T31 l0 a1).f3)) := (blk_cell BK142.out 3).trans rfl
            have hcz41_4 : wc.cell? ⟨gb142, 4, none⟩ = some (.string ((rd_T31 l0 a1).f4)) := (blk_cell BK142.out 4).trans rfl
            have hcz41_5 : wc.cell? ⟨gb142, 5, none⟩ = some (.int .i64 ((rd_T31 l0 a1).f5)) := (blk_cell BK142.out 5).trans rfl
            have hcz41_6 : wc.cell? ⟨gb142, 6, none⟩ = some (.int .i64 ((rd_T31 l0 a1).f6)) := (blk_cell BK142.out 6).trans rfl
            have hfz41_0 := blk_frozen BK142.out 0
            have hfz41_1 := blk_frozen BK142.out 1
            have hfz41_2 := blk_frozen BK142.out 2
            have hfz41_3 := blk_frozen BK142.out 3
            have hfz41_4 := blk_frozen BK142.out 4
            have hfz41_5 := blk_frozen BK142.out 5
            have hfz41_6 := blk_frozen BK142.out 6
            go_wp2_with (first | ((with_reducible refine gate_callee (f := 31) rfl ?_); refine goesL_ (some 51) rfl rfl Tryd.func31 (by kernel_rfl) rfl #[.slice (some ad141) l0.length c0, .int .i64 a1, .string ((rd_T31 l0 a1).f3)] rfl (by (try simp only [List.map_toArray, List.map_cons, List.map_nil]); first | done | rfl | (simp only [List.length_drop, List.length_take]; rfl)) ?_; (with_reducible refine (quoinref21_field.calls kj28 _ _ l0 a1 ((rd_T31 l0 a1).f3) t150 true _ ?side1 ?side2 A36.out).mono ?_); (case side1 => repeat (first | exact (Kd.C_below HR0.out HB.out) | (with_reducible refine Kd.C_alloc ?_ _) | (with_reducible refine Kd.C_drewN ?_ _) | (with_reducible refine Kd.C_drew ?_))); (case side2 => exact HC0.out); rintro e w42 ⟨rfl, hb⟩; refine ⟨_, rfl, ?_⟩; have n0_ := Aside0.mk (Kd.R_below (by (with_reducible repeat (first | apply Kd.R_alloc | apply Kd.R_drewN | apply Kd.R_drew)); exact HO_143001.out) hb); have n1_ := Aside0.mk (blk_below (g := gb140) (o := .cells #[.int .u8 0, .slice none 0 0, .int .u8 0, .string (⟨#[]⟩ : ByteArray), .string (⟨#[]⟩ : ByteArray), .int .i64 0, .int .i64 0] 31 (0, 0)) (by (with_reducible repeat (first | refine blk_drewN ?_ _ | refine blk_drew ?_ | refine blk_alloc ?_ _)); exact BK140.out) hb); have n2_ := Aside0.mk (blk_below (g := gb142) (o := .cells #[.int .u8 ((rd_T31 l0 a1).f0), .slice Ao12 y143.length co12, .int .u8 ((rd_T31 l0 a1).f2), .string ((rd_T31 l0 a1).f3), .string ((rd_T31 l0 a1).f4), .int .i64 ((rd_T31 l0 a1).f5), .int .i64 ((rd_T31 l0 a1).f6)] 31 (0, 0)) (by (with_reducible repeat (first | refine blk_drewN ?_ _ | refine blk_drew ?_ | refine blk_alloc ?_ _)); exact BK142.out) hb); have n3_ := Aside0.mk (below_step (by repeat (first | (with_reducible first | exact HB.out | apply below_alloc | apply pw_below_drewN | apply below_drew1 | refine below_set ?_ GE140.out | refine below_set ?_ GE142.out) | exact HB.out)) hb); clear HO_143001; clear BK140; clear BK142; clear HB; have HO_143001 := n0_; have BK140 := n1_; have BK142 := n2_; have HB := n3_; clear n0_ n1_ n2_ n3_; (try clear hb); (try clear hb2); (try clear hk); (try clear hi); have hcz43_0 : w42.cell? ⟨gb142, 0, none⟩ = some (.int .u8 ((rd_T31 l0 a1).f0)) := (blk_cell BK142.out 0).trans rfl; have hcz43_1 : w42.cell? ⟨gb142, 1, none⟩ = some (.slice Ao12 y143.length co12) := (blk_cell BK142.out 1).trans rfl; have hcz43_2 : w42.cell? ⟨gb142, 2, none⟩ = some (.int .u8 ((rd_T31 l0 a1).f2)) := (blk_cell BK142.out 2).trans rfl; have hcz43_3 : w42.cell? ⟨gb142, 3, none⟩ = some (.string ((rd_T31 l0 a1).f3)) := (blk_cell BK142.out 3).trans rfl; have hcz43_4 : w42.cell? ⟨gb142, 4, none⟩ = some (.string ((rd_T31 l0 a1).f4)) := (blk_cell BK142.out 4).trans rfl; have hcz43_5 : w42.cell? ⟨gb142, 5, none⟩ = some (.int .i64 ((rd_T31 l0 a1).f5)) := (blk_cell BK142.out 5).trans rfl; have hcz43_6 : w42.cell? ⟨gb142, 6, none⟩ = some (.int .i64 ((rd_T31 l0 a1).f6)) := (blk_cell BK142.out 6).trans rfl; have hfz43_0 := blk_frozen BK142.out 0; have hfz43_1 := blk_frozen BK142.out 1; have hfz43_2 := blk_frozen BK142.out 2; have hfz43_3 := blk_frozen BK142.out 3; have hfz43_4 := blk_frozen BK142.out 4; have hfz43_5 := blk_frozen BK142.out 5; have hfz43_6 := blk_frozen BK142.out 6) | ((with_reducible refine gate_callee (f := 31) rfl ?_); refine goesL_ (some 63) rfl rfl Tryd.func31 (by kernel_rfl) rfl #[.slice (some ad141) l0.length c0, .int .i64 a1, .string ((rd_T31 l0 a1).f4)] rfl (by (try simp only [List.map_toArray, List.map_cons, List.map_nil]); first | done | rfl | (simp only [List.length_drop, List.length_take]; rfl)) ?_; (with_reducible refine (quoinref21_field.calls kj28 _ _ l0 a1 ((rd_T31 l0 a1).f4) t152 t153 _ ?side1 ?side2 A38.out).mono ?_); (case side1 => exact Kd.C_below HR0.out (by repeat (first | (with_reducible first | exact HB.out | apply below_alloc | apply pw_below_drewN | apply below_drew1 | refine below_set ?_ GE140.out | refine below_set ?_ GE142.out) | exact HB.out))); (case side2 => exact HC0.out); rintro e w44 ⟨rfl, hb⟩; refine ⟨_, rfl, ?_⟩; have n0_ := Aside0.mk (Kd.R_below (by (with_reducible repeat (first | apply Kd.R_alloc | apply Kd.R_drewN | apply Kd.R_drew)); exact (Kd.R_mono (Kd.R_far (p := ⟨gb142, 3, none⟩) (Kd.R_types HO_143001.out BK142.out (by decide)) (fun _ hk => hk.2) (.string t150)) (fun _ h_ => h_.1))) hb); have n1_ := Aside0.mk (blk_below (g := gb140) (o := .cells #[.int .u8 0, .slice none 0 0, .int .u8 0, .string (⟨#[]⟩ : ByteArray), .string (⟨#[]⟩ : ByteArray), .int .i64 0, .int .i64 0] 31 (0, 0)) (by (with_reducible repeat (first | refine blk_drewN ?_ _ | refine blk_drew ?_ | refine blk_alloc ?_ _)); refine blk_far ?_ NB140_142.out _; (with_reducible repeat (first | refine blk_drewN ?_ _ | refine blk_drew ?_ | refine blk_alloc ?_ _)); exact BK140.out) hb); have n2_ := Aside0.mk (blk_below (g := gb142) (o := .cells #[.int .u8 ((rd_T31 l0 a1).f0), .slice Ao12 y143.length co12, .int .u8 ((rd_T31 l0 a1).f2), .string t150, .string ((rd_T31 l0 a1).f4), .int .i64 ((rd_T31 l0 a1).f5), .int .i64 ((rd_T31 l0 a1).f6)] 31 (0, 0)) (by (with_reducible repeat (first | refine blk_drewN ?_ _ | refine blk_drew ?_ | refine blk_alloc ?_ _)); refine blk_put (cs := #[.int .u8 ((rd_T31 l0 a1).f0), .slice Ao12 y143.length co12, .int .u8 ((rd_T31 l0 a1).f2), .string ((rd_T31 l0 a1).f3), .string ((rd_T31 l0 a1).f4), .int .i64 ((rd_T31 l0 a1).f5), .int .i64 ((rd_T31 l0 a1).f6)]) ?_ 3 _ rfl; (with_reducible repeat (first | refine blk_drewN ?_ _ | refine blk_drew ?_ | refine blk_alloc ?_ _)); exact BK142.out) hb); have n3_ := Aside0.mk (below_step (by repeat (first | (with_reducible first | exact HB.out | apply below_alloc | apply pw_below_drewN | apply below_drew1 | refine below_set ?_ GE140.out | refine below_set ?_ GE142.out) | exact HB.out)) hb); clear HO_143001; clear BK140; clear BK142; clear HB; have HO_143001 := n0_; have BK140 := n1_; have BK142 := n2_; have HB := n3_; clear n0_ n1_ n2_ n3_; (try clear hb); (try clear hb2); (try clear hk); (try clear hi); have hcz45_0 : w44.cell? ⟨gb142, 0, none⟩ = some (.int .u8 ((rd_T31 l0 a1).f0)) := (blk_cell BK142.out 0).trans rfl; have hcz45_1 : w44.cell? ⟨gb142, 1, none⟩ = some (.slice Ao12 y143.length co12) := (blk_cell BK142.out 1).trans rfl; have hcz45_2 : w44.cell? ⟨gb142, 2, none⟩ = some (.int .u8 ((rd_T31 l0 a1).f2)) := (blk_cell BK142.out 2).trans rfl; have hcz45_3 : w44.cell? ⟨gb142, 3, none⟩ = some (.string t150) := (blk_cell BK142.out 3).trans rfl; have hcz45_4 : w44.cell? ⟨gb142, 4, none⟩ = some (.string ((rd_T31 l0 a1).f4)) := (blk_cell BK142.out 4).trans rfl; have hcz45_5 : w44.cell? ⟨gb142, 5, none⟩ = some (.int .i64 ((rd_T31 l0 a1).f5)) := (blk_cell BK142.out 5).trans rfl; have hcz45_6 : w44.cell? ⟨gb142, 6, none⟩ = some (.int .i64 ((rd_T31 l0 a1).f6)) := (blk_cell BK142.out 6).trans rfl; have hfz45_0 := blk_frozen BK142.out 0; have hfz45_1 := blk_frozen BK142.out 1; have hfz45_2 := blk_frozen BK142.out 2; have hfz45_3 := blk_frozen BK142.out 3; have hfz45_4 := blk_frozen BK142.out 4; have hfz45_5 := blk_frozen BK142.out 5; have hfz45_6 := blk_frozen BK142.out 6; have hcz46_0 : w44.cell? ⟨gb140, 0, none⟩ = some (.int .u8 0) := (blk_cell BK140.out 0).trans rfl; have hcz46_1 : w44.cell? ⟨gb140, 1, none⟩ = some (.slice none 0 0) := (blk_cell BK140.out 1).trans rfl; have hcz46_2 : w44.cell? ⟨gb140, 2, none⟩ = some (.int .u8 0) := (blk_cell BK140.out 2).trans rfl; have hcz46_3 : w44.cell? ⟨gb140, 3, none⟩ = some (.string (⟨#[]⟩ : ByteArray)) := (blk_cell BK140.out 3).trans rfl; have hcz46_4 : w44.cell? ⟨gb140, 4, none⟩ = some (.string (⟨#[]⟩ : ByteArray)) := (blk_cell BK140.out 4).trans rfl; have hcz46_5 : w44.cell? ⟨gb140, 5, none⟩ = some (.int .i64 0) := (blk_cell BK140.out 5).trans rfl; have hcz46_6 : w44.cell? ⟨gb140, 6, none⟩ = some (.int .i64 0) := (blk_cell BK140.out 6).trans rfl; have hfz46_0 := blk_frozen BK140.out 0; have hfz46_1 := blk_frozen BK140.out 1; have hfz46_2 := blk_frozen BK140.out 2; have hfz46_3 := blk_frozen BK140.out 3; have hfz46_4 := blk_frozen BK140.out 4; have hfz46_5 := blk_frozen BK140.out 5; have hfz46_6 := blk_frozen BK140.out 6))
            refine bodyPost_ret (results_ct rfl _ _ gb140 31 #[.int .u8 ((rd_T31 l0 a1).f0), .slice Ao12 y143.length co12, .int .u8 ((rd_T31 l0 a1).f2), .string t150, .string t152, .int .i64 ((rd_T31 l0 a1).f5), .int .i64 ((rd_T31 l0 a1).f6)] (0, 0) _ rfl (by (with_reducible repeat (first | refine blk_drewN ?_ _ | refine blk_drew ?_ | refine blk_alloc ?_ _)); refine blk_put (cs := #[.int .u8 ((rd_T31 l0 a1).f0), .slice Ao12 y143.length co12, .int .u8 ((rd_T31 l0 a1).f2), .string t150, .string t152, .int .i64 ((rd_T31 l0 a1).f5), .int .i64 0]) ?_ 6 _ rfl; (with_reducible repeat (first | refine blk_drewN ?_ _ | refine blk_drew ?_ | refine blk_alloc ?_ _)); refine blk_put (cs := #[.int .u8 ((rd_T31 l0 a1).f0), .slice Ao12 y143.length co12, .int .u8 ((rd_T31 l0 a1).f2), .string t150, .string t152, .int .i64 0, .int .i64 0]) ?_ 5 _ rfl; (with_reducible repeat (first | refine blk_drewN ?_ _ | refine blk_drew ?_ | refine blk_alloc ?_ _)); refine blk_put (cs := #[.int .u8 ((rd_T31 l0 a1).f0), .slice Ao12 y143.length co12, .int .u8 ((rd_T31 l0 a1).f2), .string t150, .string (⟨#[]⟩ : ByteArray), .int .i64 0, .int .i64 0]) ?_ 4 _ rfl; (with_reducible repeat (first | refine blk_drewN ?_ _ | refine blk_drew ?_ | refine blk_alloc ?_ _)); refine blk_put (cs := #[.int .u8 ((rd_T31 l0 a1).f0), .slice Ao12 y143.length co12, .int .u8 ((rd_T31 l0 a1).f2), .string (⟨#[]⟩ : ByteArray), .string (⟨#[]⟩ : ByteArray), .int .i64 0, .int .i64 0]) ?_ 3 _ rfl; (with_reducible repeat (first | refine blk_drewN ?_ _ | refine blk_drew ?_ | refine blk_alloc ?_ _)); refine blk_put (cs := #[.int .u8 ((rd_T31 l0 a1).f0), .slice Ao12 y143.length co12, .int .u8 0, .string (⟨#[]⟩ : ByteArray), .string (⟨#[]⟩ : ByteArray), .int .i64 0, .int .i64 0]) ?_ 2 _ rfl; (with_reducible repeat (first | refine blk_drewN ?_ _ | refine blk_drew ?_ | refine blk_alloc ?_ _)); refine blk_put (cs := #[.int .u8 ((rd_T31 l0 a1).f0), .slice none 0 0, .int .u8 0, .string (⟨#[]⟩ : ByteArray), .string (⟨#[]⟩ : ByteArray), .int .i64 0, .int .i64 0]) ?_ 1 _ rfl; (with_reducible repeat (first | refine blk_drewN ?_ _ | refine blk_drew ?_ | refine blk_alloc ?_ _)); refine blk_put (cs := #[.int .u8 0, .slice none 0 0, .int .u8 0, .string (⟨#[]⟩ : ByteArray), .string (⟨#[]⟩ : ByteArray), .int .i64 0, .int .i64 0]) ?_ 0 _ rfl; (with_reducible repeat (first | refine blk_drewN ?_ _ | refine blk_drew ?_ | refine blk_alloc ?_ _)); refine blk_far ?_ NB140_142.out _; (with_reducible repeat (first | refine blk_drewN ?_ _ | refine blk_drew ?_ | refine blk_alloc ?_ _)); exact BK140.out) Tryd.underlying31 rfl (by kernel_rfl)) rfl ?_
            exact ⟨_, by first | rfl | (simp [errW_none, errW_some] <;> rfl) | (simp [*, errW_none, errW_some] <;> rfl), by (with_reducible repeat (first | apply Kd.R_alloc | apply Kd.R_drewN | apply Kd.R_drew)); exact Kd.R_mono (Kd.R_far (p := ⟨gb140, 6, none⟩) (Kd.R_far (p := ⟨gb140, 5, none⟩) (Kd.R_far (p := ⟨gb140, 4, none⟩) (Kd.R_far (p := ⟨gb140, 3, none⟩) (Kd.R_far (p := ⟨gb140, 2, none⟩) (Kd.R_far (p := ⟨gb140, 1, none⟩) (Kd.R_far (p := ⟨gb140, 0, none⟩) (Kd.R_far (p := ⟨gb142, 4, none⟩) (Kd.R_types (Kd.R_types HO_143001.out BK142.out (by decide)) BK140.out (by decide)) (fun _ hk => hk.1.2) (.string t152)) (fun _ hk => hk.2) (.int .u8 ((rd_T31 l0 a1).f0))) (fun _ hk => hk.2) (.slice Ao12 y143.length co12)) (fun _ hk => hk.2) (.int .u8 ((rd_T31 l0 a1).f2))) (fun _ hk => hk.2) (.string t150)) (fun _ hk => hk.2) (.string t152)) (fun _ hk => hk.2) (.int .i64 ((rd_T31 l0 a1).f5))) (fun _ hk => hk.2) (.int .i64 ((rd_T31 l0 a1).f6))) (fun _ hk => trivial), by repeat (first | (with_reducible first | exact HB.out | apply below_alloc | apply pw_below_drewN | apply below_drew1 | refine below_set ?_ GE140.out | refine below_set ?_ GE142.out) | exact HB.out)⟩
           ·
            replace c39 := Bool.eq_false_iff.mpr c39
            (try subst c39)
            have H1 : (some (((rd_T31 l0 a1).f0), y143, ((rd_T31 l0 a1).f2), t150, t152, ((rd_T31 l0 a1).f5), ((rd_T31 l0 a1).f6), false)) = some (r1, r2, r3, r4, r5, r6, r7, r8) := by first | (rw [if_neg (show ¬ (false = true) by decide)] at H; exact H) | exact absurd c39 (by decide)
            clear H
            have H := H1
            clear H1
            simp only [Option.some.injEq, Prod.mk.injEq] at H
            obtain ⟨rfl, rfl, rfl, rfl, rfl, rfl, rfl, rfl⟩ := H
            have hnb47 := NB142_140.out
            have hnc47 := NB140_142.out
            have hcz48_0 : wc.cell? ⟨gb142, 0, none⟩ = some (.int .u8 ((rd_T31 l0 a1).f0)) := (blk_cell BK142.out 0).trans rfl
            have hcz48_1 : wc.cell? ⟨gb142, 1, none⟩ = some (.slice Ao12 y143.length co12) := (blk_cell BK142.out 1).trans rfl
            have hcz48_2 : wc.cell? ⟨gb142, 2, none⟩ = some (.int .u8 ((rd_T31 l0 a1).f2)) := (blk_cell BK142.out 2).trans rfl
            have hcz48_3 : wc.cell? ⟨gb142, 3, none⟩ = some (.string ((rd_T31 l0 a1).f3)) := (blk_cell BK142.out 3).trans rfl
            have hcz48_4 : wc.cell? ⟨gb142, 4, none⟩ = some (.string ((rd_T31 l0 a1).f4)) := (blk_cell BK142.out 4).trans rfl
            have hcz48_5 : wc.cell? ⟨gb142, 5, none⟩ = some (.int .i64 ((rd_T31 l0 a1).f5)) := (blk_cell BK142.out 5).trans rfl
            have hcz48_6 : wc.cell? ⟨gb142, 6, none⟩ = some (.int .i64 ((rd_T31 l0 a1).f6)) := (blk_cell BK142.out 6).trans rfl
            have hfz48_0 := blk_frozen BK142.out 0
            have hfz48_1 := blk_frozen BK142.out 1
            have hfz48_2 := blk_frozen BK142.out 2
            have hfz48_3 := blk_frozen BK142.out 3
            have hfz48_4 := blk_frozen BK142.out 4
            have hfz48_5 := blk_frozen BK142.out 5
            have hfz48_6 := blk_frozen BK142.out 6
            go_wp2_with (first | ((with_reducible refine gate_callee (f := 31) rfl ?_); refine goesL_ (some 51) rfl rfl Tryd.func31 (by kernel_rfl) rfl #[.slice (some ad141) l0.length c0, .int .i64 a1, .string ((rd_T31 l0 a1).f3)] rfl (by (try simp only [List.map_toArray, List.map_cons, List.map_nil]); first | done | rfl | (simp only [List.length_drop, List.length_take]; rfl)) ?_; (with_reducible refine (quoinref21_field.calls kj28 _ _ l0 a1 ((rd_T31 l0 a1).f3) t150 false _ ?side1 ?side2 A36.out).mono ?_); (case side1 => repeat (first | exact (Kd.C_below HR0.out HB.out) | (with_reducible refine Kd.C_alloc ?_ _) | (with_reducible refine Kd.C_drewN ?_ _) | (with_reducible refine Kd.C_drew ?_))); (case side2 => exact HC0.out); rintro e w49 ⟨rfl, hb⟩; refine ⟨_, rfl, ?_⟩; have n0_ := Aside0.mk (Kd.R_below (by (with_reducible repeat (first | apply Kd.R_alloc | apply Kd.R_drewN | apply Kd.R_drew)); exact HO_143001.out) hb); have n1_ := Aside0.mk (blk_below (g := gb140) (o := .cells #[.int .u8 0, .slice none 0 0, .int .u8 0, .string (⟨#[]⟩ : ByteArray), .string (⟨#[]⟩ : ByteArray), .int .i64 0, .int .i64 0] 31 (0, 0)) (by (with_reducible repeat (first | refine blk_drewN ?_ _ | refine blk_drew ?_ | refine blk_alloc ?_ _)); exact BK140.out) hb); have n2_ := Aside0.mk (blk_below (g := gb142) (o := .cells #[.int .u8 ((rd_T31 l0 a1).f0), .slice Ao12 y143.length co12, .int .u8 ((rd_T31 l0 a1).f2), .string ((rd_T31 l0 a1).f3), .string ((rd_T31 l0 a1).f4), .int .i64 ((rd_T31 l0 a1).f5), .int .i64 ((rd_T31 l0 a1).f6)] 31 (0, 0)) (by (with_reducible repeat (first | refine blk_drewN ?_ _ | refine blk_drew ?_ | refine blk_alloc ?_ _)); exact BK142.out) hb); have n3_ := Aside0.mk (below_step (by repeat (first | (with_reducible first | exact HB.out | apply below_alloc | apply pw_below_drewN | apply below_drew1 | refine below_set ?_ GE140.out | refine below_set ?_ GE142.out) | exact HB.out)) hb); clear HO_143001; clear BK140; clear BK142; clear HB; have HO_143001 := n0_; have BK140 := n1_; have BK142 := n2_; have HB := n3_; clear n0_ n1_ n2_ n3_; (try clear hb); (try clear hb2); (try clear hk); (try clear hi); have hcz50_0 : w49.cell? ⟨gb142, 0, none⟩ = some (.int .u8 ((rd_T31 l0 a1).f0)) := (blk_cell BK142.out 0).trans rfl; have hcz50_1 : w49.cell? ⟨gb142, 1, none⟩ = some (.slice Ao12 y143.length co12) := (blk_cell BK142.out 1).trans rfl; have hcz50_2 : w49.cell? ⟨gb142, 2, none⟩ = some (.int .u8 ((rd_T31 l0 a1).f2)) := (blk_cell BK142.out 2).trans rfl; have hcz50_3 : w49.cell? ⟨gb142, 3, none⟩ = some (.string ((rd_T31 l0 a1).f3)) := (blk_cell BK142.out 3).trans rfl; have hcz50_4 : w49.cell? ⟨gb142, 4, none⟩ = some (.string ((rd_T31 l0 a1).f4)) := (blk_cell BK142.out 4).trans rfl; have hcz50_5 : w49.cell? ⟨gb142, 5, none⟩ = some (.int .i64 ((rd_T31 l0 a1).f5)) := (blk_cell BK142.out 5).trans rfl; have hcz50_6 : w49.cell? ⟨gb142, 6, none⟩ = some (.int .i64 ((rd_T31 l0 a1).f6)) := (blk_cell BK142.out 6).trans rfl; have hfz50_0 := blk_frozen BK142.out 0; have hfz50_1 := blk_frozen BK142.out 1; have hfz50_2 := blk_frozen BK142.out 2; have hfz50_3 := blk_frozen BK142.out 3; have hfz50_4 := blk_frozen BK142.out 4; have hfz50_5 := blk_frozen BK142.out 5; have hfz50_6 := blk_frozen BK142.out 6) | ((with_reducible refine gate_callee (f := 31) rfl ?_); refine goesL_ (some 63) rfl rfl Tryd.func31 (by kernel_rfl) rfl #[.slice (some ad141) l0.length c0, .int .i64 a1, .string ((rd_T31 l0 a1).f4)] rfl (by (try simp only [List.map_toArray, List.map_cons, List.map_nil]); first | done | rfl | (simp only [List.length_drop, List.length_take]; rfl)) ?_; (with_reducible refine (quoinref21_field.calls kj28 _ _ l0 a1 ((rd_T31 l0 a1).f4) t152 t153 _ ?side1 ?side2 A38.out).mono ?_); (case side1 => exact Kd.C_below HR0.out (by repeat (first | (with_reducible first | exact HB.out | apply below_alloc | apply pw_below_drewN | apply below_drew1 | refine below_set ?_ GE140.out | refine below_set ?_ GE142.out) | exact HB.out))); (case side2 => exact HC0.out); rintro e w51 ⟨rfl, hb⟩; refine ⟨_, rfl, ?_⟩; have n0_ := Aside0.mk (Kd.R_below (by (with_reducible repeat (first | apply Kd.R_alloc | apply Kd.R_drewN | apply Kd.R_drew)); exact (Kd.R_mono (Kd.R_far (p := ⟨gb142, 3, none⟩) (Kd.R_types HO_143001.out BK142.out (by decide)) (fun _ hk => hk.2) (.string t150)) (fun _ h_ => h_.1))) hb); have n1_ := Aside0.mk (blk_below (g := gb140) (o := .cells #[.int .u8 0, .slice none 0 0, .int .u8 0, .string (⟨#[]⟩ : ByteArray), .string (⟨#[]⟩ : ByteArray), .int .i64 0, .int .i64 0] 31 (0, 0)) (by (with_reducible repeat (first | refine blk_drewN ?_ _ | refine blk_drew ?_ | refine blk_alloc ?_ _)); refine blk_far ?_ NB140_142.out _; (with_reducible repeat (first | refine blk_drewN ?_ _ | refine blk_drew ?_ | refine blk_alloc ?_ _)); exact BK140.out) hb); have n2_ := Aside0.mk (blk_below (g := gb142) (o := .cells #[.int .u8 ((rd_T31 l0 a1).f0), .slice Ao12 y143.length co12, .int .u8 ((rd_T31 l0 a1).f2), .string t150, .string ((rd_T31 l0 a1).f4), .int .i64 ((rd_T31 l0 a1).f5), .int .i64 ((rd_T31 l0 a1).f6)] 31 (0, 0)) (by (with_reducible repeat (first | refine blk_drewN ?_ _ | refine blk_drew ?_ | refine blk_alloc ?_ _)); refine blk_put (cs := #[.int .u8 ((rd_T31 l0 a1).f0), .slice Ao12 y143.length co12, .int .u8 ((rd_T31 l0 a1).f2), .string ((rd_T31 l0 a1).f3), .string ((rd_T31 l0 a1).f4), .int .i64 ((rd_T31 l0 a1).f5), .int .i64 ((rd_T31 l0 a1).f6)]) ?_ 3 _ rfl; (with_reducible repeat (first | refine blk_drewN ?_ _ | refine blk_drew ?_ | refine blk_alloc ?_ _)); exact BK142.out) hb); have n3_ := Aside0.mk (below_step (by repeat (first | (with_reducible first | exact HB.out | apply below_alloc | apply pw_below_drewN | apply below_drew1 | refine below_set ?_ GE140.out | refine below_set ?_ GE142.out) | exact HB.out)) hb); clear HO_143001; clear BK140; clear BK142; clear HB; have HO_143001 := n0_; have BK140 := n1_; have BK142 := n2_; have HB := n3_; clear n0_ n1_ n2_ n3_; (try clear hb); (try clear hb2); (try clear hk); (try clear hi); have hcz52_0 : w51.cell? ⟨gb142, 0, none⟩ = some (.int .u8 ((rd_T31 l0 a1).f0)) := (blk_cell BK142.out 0).trans rfl; have hcz52_1 : w51.cell? ⟨gb142, 1, none⟩ = some (.slice Ao12 y143.length co12) := (blk_cell BK142.out 1).trans rfl; have hcz52_2 : w51.cell? ⟨gb142, 2, none⟩ = some (.int .u8 ((rd_T31 l0 a1).f2)) := (blk_cell BK142.out 2).trans rfl; have hcz52_3 : w51.cell? ⟨gb142, 3, none⟩ = some (.string t150) := (blk_cell BK142.out 3).trans rfl; have hcz52_4 : w51.cell? ⟨gb142, 4, none⟩ = some (.string ((rd_T31 l0 a1).f4)) := (blk_cell BK142.out 4).trans rfl; have hcz52_5 : w51.cell? ⟨gb142, 5, none⟩ = some (.int .i64 ((rd_T31 l0 a1).f5)) := (blk_cell BK142.out 5).trans rfl; have hcz52_6 : w51.cell? ⟨gb142, 6, none⟩ = some (.int .i64 ((rd_T31 l0 a1).f6)) := (blk_cell BK142.out 6).trans rfl; have hfz52_0 := blk_frozen BK142.out 0; have hfz52_1 := blk_frozen BK142.out 1; have hfz52_2 := blk_frozen BK142.out 2; have hfz52_3 := blk_frozen BK142.out 3; have hfz52_4 := blk_frozen BK142.out 4; have hfz52_5 := blk_frozen BK142.out 5; have hfz52_6 := blk_frozen BK142.out 6; have hcz53_0 : w51.cell? ⟨gb140, 0, none⟩ = some (.int .u8 0) := (blk_cell BK140.out 0).trans rfl; have hcz53_1 : w51.cell? ⟨gb140, 1, none⟩ = some (.slice none 0 0) := (blk_cell BK140.out 1).trans rfl; have hcz53_2 : w51.cell? ⟨gb140, 2, none⟩ = some (.int .u8 0) := (blk_cell BK140.out 2).trans rfl; have hcz53_3 : w51.cell? ⟨gb140, 3, none⟩ = some (.string (⟨#[]⟩ : ByteArray)) := (blk_cell BK140.out 3).trans rfl; have hcz53_4 : w51.cell? ⟨gb140, 4, none⟩ = some (.string (⟨#[]⟩ : ByteArray)) := (blk_cell BK140.out 4).trans rfl; have hcz53_5 : w51.cell? ⟨gb140, 5, none⟩ = some (.int .i64 0) := (blk_cell BK140.out 5).trans rfl; have hcz53_6 : w51.cell? ⟨gb140, 6, none⟩ = some (.int .i64 0) := (blk_cell BK140.out 6).trans rfl; have hfz53_0 := blk_frozen BK140.out 0; have hfz53_1 := blk_frozen BK140.out 1; have hfz53_2 := blk_frozen BK140.out 2; have hfz53_3 := blk_frozen BK140.out 3; have hfz53_4 := blk_frozen BK140.out 4; have hfz53_5 := blk_frozen BK140.out 5; have hfz53_6 := blk_frozen BK140.out 6))
            refine bodyPost_ret (results_ct rfl _ _ gb140 31 #[.int .u8 ((rd_T31 l0 a1).f0), .slice Ao12 y143.length co12, .int .u8 ((rd_T31 l0 a1).f2), .string t150, .string t152, .int .i64 ((rd_T31 l0 a1).f5), .int .i64 ((rd_T31 l0 a1).f6)] (0, 0) _ rfl (by (with_reducible repeat (first | refine blk_drewN ?_ _ | refine blk_drew ?_ | refine blk_alloc ?_ _)); refine blk_put (cs := #[.int .u8 ((rd_T31 l0 a1).f0), .slice Ao12 y143.length co12, .int .u8 ((rd_T31 l0 a1).f2), .string t150, .string t152, .int .i64 ((rd_T31 l0 a1).f5), .int .i64 0]) ?_ 6 _ rfl; (with_reducible repeat (first | refine blk_drewN ?_ _ | refine blk_drew ?_ | refine blk_alloc ?_ _)); refine blk_put (cs := #[.int .u8 ((rd_T31 l0 a1).f0), .slice Ao12 y143.length co12, .int .u8 ((rd_T31 l0 a1).f2), .string t150, .string t152, .int .i64 0, .int .i64 0]) ?_ 5 _ rfl; (with_reducible repeat (first | refine blk_drewN ?_ _ | refine blk_drew ?_ | refine blk_alloc ?_ _)); refine blk_put (cs := #[.int .u8 ((rd_T31 l0 a1).f0), .slice Ao12 y143.length co12, .int .u8 ((rd_T31 l0 a1).f2), .string t150, .string (⟨#[]⟩ : ByteArray), .int .i64 0, .int .i64 0]) ?_ 4 _ rfl; (with_reducible repeat (first | refine blk_drewN ?_ _ | refine blk_drew ?_ | refine blk_alloc ?_ _)); refine blk_put (cs := #[.int .u8 ((rd_T31 l0 a1).f0), .slice Ao12 y143.length co12, .int .u8 ((rd_T31 l0 a1).f2), .string (⟨#[]⟩ : ByteArray), .string (⟨#[]⟩ : ByteArray), .int .i64 0, .int .i64 0]) ?_ 3 _ rfl; (with_reducible repeat (first | refine blk_drewN ?_ _ | refine blk_drew ?_ | refine blk_alloc ?_ _)); refine blk_put (cs := #[.int .u8 ((rd_T31 l0 a1).f0), .slice Ao12 y143.length co12, .int .u8 0, .string (⟨#[]⟩ : ByteArray), .string (⟨#[]⟩ : ByteArray), .int .i64 0, .int .i64 0]) ?_ 2 _ rfl; (with_reducible repeat (first | refine blk_drewN ?_ _ | refine blk_drew ?_ | refine blk_alloc ?_ _)); refine blk_put (cs := #[.int .u8 ((rd_T31 l0 a1).f0), .slice none 0 0, .int .u8 0, .string (⟨#[]⟩ : ByteArray), .string (⟨#[]⟩ : ByteArray), .int .i64 0, .int .i64 0]) ?_ 1 _ rfl; (with_reducible repeat (first | refine blk_drewN ?_ _ | refine blk_drew ?_ | refine blk_alloc ?_ _)); refine blk_put (cs := #[.int .u8 0, .slice none 0 0, .int .u8 0, .string (⟨#[]⟩ : ByteArray), .string (⟨#[]⟩ : ByteArray), .int .i64 0, .int .i64 0]) ?_ 0 _ rfl; (with_reducible repeat (first | refine blk_drewN ?_ _ | refine blk_drew ?_ | refine blk_alloc ?_ _)); refine blk_far ?_ NB140_142.out _; (with_reducible repeat (first | refine blk_drewN ?_ _ | refine blk_drew ?_ | refine blk_alloc ?_ _)); exact BK140.out) Tryd.underlying31 rfl (by kernel_rfl)) rfl ?_
            exact ⟨_, by first | rfl | (simp [errW_none, errW_some] <;> rfl) | (simp [*, errW_none, errW_some] <;> rfl), by (with_reducible repeat (first | apply Kd.R_alloc | apply Kd.R_drewN | apply Kd.R_drew)); exact Kd.R_mono (Kd.R_far (p := ⟨gb140, 6, none⟩) (Kd.R_far (p := ⟨gb140, 5, none⟩) (Kd.R_far (p := ⟨gb140, 4, none⟩) (Kd.R_far (p := ⟨gb140, 3, none⟩) (Kd.R_far (p := ⟨gb140, 2, none⟩) (Kd.R_far (p := ⟨gb140, 1, none⟩) (Kd.R_far (p := ⟨gb140, 0, none⟩) (Kd.R_far (p := ⟨gb142, 4, none⟩) (Kd.R_types (Kd.R_types HO_143001.out BK142.out (by decide)) BK140.out (by decide)) (fun _ hk => hk.1.2) (.string t152)) (fun _ hk => hk.2) (.int .u8 ((rd_T31 l0 a1).f0))) (fun _ hk => hk.2) (.slice Ao12 y143.length co12)) (fun _ hk => hk.2) (.int .u8 ((rd_T31 l0 a1).f2))) (fun _ hk => hk.2) (.string t150)) (fun _ hk => hk.2) (.string t152)) (fun _ hk => hk.2) (.int .i64 ((rd_T31 l0 a1).f5))) (fun _ hk => hk.2) (.int .i64 ((rd_T31 l0 a1).f6))) (fun _ hk => trivial), by repeat (first | (with_reducible first | exact HB.out | apply below_alloc | apply pw_below_drewN | apply below_drew1 | refine below_set ?_ GE140.out | refine below_set ?_ GE142.out) | exact HB.out)⟩
          ·
           rw [if_neg c37] at H
           have c37b0 : (((rd_T31 l0 a1).f0) == 3) = false := beq_eq_false_iff_ne.mpr c37
           have c37b1 : (((rd_T31 l0 a1).f0) != 3) = true := bne_iff_ne.mpr c37
           by_cases c54 : t151 = true
           ·
            subst c54
            have H1 : (some (((rd_T31 l0 a1).f0), y143, ((rd_T31 l0 a1).f2), t150, ((rd_T31 l0 a1).f4), ((rd_T31 l0 a1).f5), ((rd_T31 l0 a1).f6), true)) = some (r1, r2, r3, r4, r5, r6, r7, r8) := by rw [if_pos rfl] at H; exact H
            clear H
            have H := H1
            clear H1
            simp only [Option.some.injEq, Prod.mk.injEq] at H
            obtain ⟨rfl, rfl, rfl, rfl, rfl, rfl, rfl, rfl⟩ := H
            have hnb55 := NB142_140.out
            have hnc55 := NB140_142.out
            have hcz56_0 : wc.cell? ⟨gb142, 0, none⟩ = some (.int .u8 ((rd_T31 l0 a1).f0)) := (blk_cell BK142.out 0).trans rfl
            have hcz56_1 : wc.cell? ⟨gb142, 1, none⟩ = some (.slice Ao12 y143.length co12) := (blk_cell BK142.out 1).trans rfl
            have hcz56_2 : wc.cell? ⟨gb142, 2, none⟩ = some (.int .u8 ((rd_T31 l0 a1).f2)) := (blk_cell BK142.out 2).trans rfl
            have hcz56_3 : wc.cell? ⟨gb142, 3, none⟩ = some (.string ((rd_T31 l0 a1).f3)) := (blk_cell BK142.out 3).trans rfl
            have hcz56_4 : wc.cell? ⟨gb142, 4, none⟩ = some (.string ((rd_T31 l0 a1).f4)) := (blk_cell BK142.out 4).trans rfl
            have hcz56_5 : wc.cell? ⟨gb142, 5, none⟩ = some (.int .i64 ((rd_T31 l0 a1).f5)) := (blk_cell BK142.out 5).trans rfl
            have hcz56_6 : wc.cell? ⟨gb142, 6, none⟩ = some (.int .i64 ((rd_T31 l0 a1).f6)) := (blk_cell BK142.out 6).trans rfl
            have hfz56_0 := blk_frozen BK142.out 0
            have hfz56_1 := blk_frozen BK142.out 1
            have hfz56_2 := blk_frozen BK142.out 2
            have hfz56_3 := blk_frozen BK142.out 3
            have hfz56_4 := blk_frozen BK142.out 4
            have hfz56_5 := blk_frozen BK142.out 5
            have hfz56_6 := blk_frozen BK142.out 6
            go_wp2_with (first | ((with_reducible refine gate_callee (f := 31) rfl ?_); refine goesL_ (some 51) rfl rfl Tryd.func31 (by kernel_rfl) rfl #[.slice (some ad141) l0.length c0, .int .i64 a1, .string ((rd_T31 l0 a1).f3)] rfl (by (try simp only [List.map_toArray, List.map_cons, List.map_nil]); first | done | rfl | (simp only [List.length_drop, List.length_take]; rfl)) ?_; (with_reducible refine (quoinref21_field.calls kj28 _ _ l0 a1 ((rd_T31 l0 a1).f3) t150 true _ ?side1 ?side2 A36.out).mono ?_); (case side1 => repeat (first | exact (Kd.C_below HR0.out HB.out) | (with_reducible refine Kd.C_alloc ?_ _) | (with_reducible refine Kd.C_drewN ?_ _) | (with_reducible refine Kd.C_drew ?_))); (case side2 => exact HC0.out); rintro e w57 ⟨rfl, hb⟩; refine ⟨_, rfl, ?_⟩; have n0_ := Aside0.mk (Kd.R_below (by (with_reducible repeat (first | apply Kd.R_alloc | apply Kd.R_drewN | apply Kd.R_drew)); exact HO_143001.out) hb); have n1_ := Aside0.mk (blk_below (g := gb140) (o := .cells #[.int .u8 0, .slice none 0 0, .int .u8 0, .string (⟨#[]⟩ : ByteArray), .string (⟨#[]⟩ : ByteArray), .int .i64 0, .int .i64 0] 31 (0, 0)) (by (with_reducible repeat (first | refine blk_drewN ?_ _ | refine blk_drew ?_ | refine blk_alloc ?_ _)); exact BK140.out) hb); have n2_ := Aside0.mk (blk_below (g := gb142) (o := .cells #[.int .u8 ((rd_T31 l0 a1).f0), .slice Ao12 y143.length co12, .int .u8 ((rd_T31 l0 a1).f2), .string ((rd_T31 l0 a1).f3), .string ((rd_T31 l0 a1).f4), .int .i64 ((rd_T31 l0 a1).f5), .int .i64 ((rd_T31 l0 a1).f6)] 31 (0, 0)) (by (with_reducible repeat (first | refine blk_drewN ?_ _ | refine blk_drew ?_ | refine blk_alloc ?_ _)); exact BK142.out) hb); have n3_ := Aside0.mk (below_step (by repeat (first | (with_reducible first | exact HB.out | apply below_alloc | apply pw_below_drewN | apply below_drew1 | refine below_set ?_ GE140.out | refine below_set ?_ GE142.out) | exact HB.out)) hb); clear HO_143001; clear BK140; clear BK142; clear HB; have HO_143001 := n0_; have BK140 := n1_; have BK142 := n2_; have HB := n3_; clear n0_ n1_ n2_ n3_; (try clear hb); (try clear hb2); (try clear hk); (try clear hi); have hcz58_0 : w57.cell? ⟨gb142, 0, none⟩ = some (.int .u8 ((rd_T31 l0 a1).f0)) := (blk_cell BK142.out 0).trans rfl; have hcz58_1 : w57.cell? ⟨gb142, 1, none⟩ = some (.slice Ao12 y143.length co12) := (blk_cell BK142.out 1).trans rfl; have hcz58_2 : w57.cell? ⟨gb142, 2, none⟩ = some (.int .u8 ((rd_T31 l0 a1).f2)) := (blk_cell BK142.out 2).trans rfl; have hcz58_3 : w57.cell? ⟨gb142, 3, none⟩ = some (.string ((rd_T31 l0 a1).f3)) := (blk_cell BK142.out 3).trans rfl; have hcz58_4 : w57.cell? ⟨gb142, 4, none⟩ = some (.string ((rd_T31 l0 a1).f4)) := (blk_cell BK142.out 4).trans rfl; have hcz58_5 : w57.cell? ⟨gb142, 5, none⟩ = some (.int .i64 ((rd_T31 l0 a1).f5)) := (blk_cell BK142.out 5).trans rfl; have hcz58_6 : w57.cell? ⟨gb142, 6, none⟩ = some (.int .i64 ((rd_T31 l0 a1).f6)) := (blk_cell BK142.out 6).trans rfl; have hfz58_0 := blk_frozen BK142.out 0; have hfz58_1 := blk_frozen BK142.out 1; have hfz58_2 := blk_frozen BK142.out 2; have hfz58_3 := blk_frozen BK142.out 3; have hfz58_4 := blk_frozen BK142.out 4; have hfz58_5 := blk_frozen BK142.out 5; have hfz58_6 := blk_frozen BK142.out 6; have hcz59_0 : w57.cell? ⟨gb140, 0, none⟩ = some (.int .u8 0) := (blk_cell BK140.out 0).trans rfl; have hcz59_1 : w57.cell? ⟨gb140, 1, none⟩ = some (.slice none 0 0) := (blk_cell BK140.out 1).trans rfl; have hcz59_2 : w57.cell? ⟨gb140, 2, none⟩ = some (.int .u8 0) := (blk_cell BK140.out 2).trans rfl; have hcz59_3 : w57.cell? ⟨gb140, 3, none⟩ = some (.string (⟨#[]⟩ : ByteArray)) := (blk_cell BK140.out 3).trans rfl; have hcz59_4 : w57.cell? ⟨gb140, 4, none⟩ = some (.string (⟨#[]⟩ : ByteArray)) := (blk_cell BK140.out 4).trans rfl; have hcz59_5 : w57.cell? ⟨gb140, 5, none⟩ = some (.int .i64 0) := (blk_cell BK140.out 5).trans rfl; have hcz59_6 : w57.cell? ⟨gb140, 6, none⟩ = some (.int .i64 0) := (blk_cell BK140.out 6).trans rfl; have hfz59_0 := blk_frozen BK140.out 0; have hfz59_1 := blk_frozen BK140.out 1; have hfz59_2 := blk_frozen BK140.out 2; have hfz59_3 := blk_frozen BK140.out 3; have hfz59_4 := blk_frozen BK140.out 4; have hfz59_5 := blk_frozen BK140.out 5; have hfz59_6 := blk_frozen BK140.out 6))
            refine bodyPost_ret (results_ct rfl _ _ gb140 31 #[.int .u8 ((rd_T31 l0 a1).f0), .slice Ao12 y143.length co12, .int .u8 ((rd_T31 l0 a1).f2), .string t150, .string ((rd_T31 l0 a1).f4), .int .i64 ((rd_T31 l0 a1).f5), .int .i64 ((rd_T31 l0 a1).f6)] (0, 0) _ rfl (by (with_reducible repeat (first | refine blk_drewN ?_ _ | refine blk_drew ?_ | refine blk_alloc ?_ _)); refine blk_put (cs := #[.int .u8 ((rd_T31 l0 a1).f0), .slice Ao12 y143.length co12, .int .u8 ((rd_T31 l0 a1).f2), .string t150, .string ((rd_T31 l0 a1).f4), .int .i64 ((rd_T31 l0 a1).f5), .int .i64 0]) ?_ 6 _ rfl; (with_reducible repeat (first | refine blk_drewN ?_ _ | refine blk_drew ?_ | refine blk_alloc ?_ _)); refine blk_put (cs := #[.int .u8 ((rd_T31 l0 a1).f0), .slice Ao12 y143.length co12, .int .u8 ((rd_T31 l0 a1).f2), .string t150, .string ((rd_T31 l0 a1).f4), .int .i64 0, .int .i64 0]) ?_ 5 _ rfl; (with_reducible repeat (first | refine blk_drewN ?_ _ | refine blk_drew ?_ | refine blk_alloc ?_ _)); refine blk_put (cs := #[.int .u8 ((rd_T31 l0 a1).f0), .slice Ao12 y143.length co12, .int .u8 ((rd_T31 l0 a1).f2), .string t150, .string (⟨#[]⟩ : ByteArray), .int .i64 0, .int .i64 0]) ?_ 4 _ rfl; (with_reducible repeat (first | refine blk_drewN ?_ _ | refine blk_drew ?_ | refine blk_alloc ?_ _)); refine blk_put (cs := #[.int .u8 ((rd_T31 l0 a1).f0), .slice Ao12 y143.length co12, .int .u8 ((rd_T31 l0 a1).f2), .string (⟨#[]⟩ : ByteArray), .string (⟨#[]⟩ : ByteArray), .int .i64 0, .int .i64 0]) ?_ 3 _ rfl; (with_reducible repeat (first | refine blk_drewN ?_ _ | refine blk_drew ?_ | refine blk_alloc ?_ _)); refine blk_put (cs := #[.int .u8 ((rd_T31 l0 a1).f0), .slice Ao12 y143.length co12, .int .u8 0, .string (⟨#[]⟩ : ByteArray), .string (⟨#[]⟩ : ByteArray), .int .i64 0, .int .i64 0]) ?_ 2 _ rfl; (with_reducible repeat (first | refine blk_drewN ?_ _ | refine blk_drew ?_ | refine blk_alloc ?_ _)); refine blk_put (cs := #[.int .u8 ((rd_T31 l0 a1).f0), .slice none 0 0, .int .u8 0, .string (⟨#[]⟩ : ByteArray), .string (⟨#[]⟩ : ByteArray), .int .i64 0, .int .i64 0]) ?_ 1 _ rfl; (with_reducible repeat (first | refine blk_drewN ?_ _ | refine blk_drew ?_ | refine blk_alloc ?_ _)); refine blk_put (cs := #[.int .u8 0, .slice none 0 0, .int .u8 0, .string (⟨#[]⟩ : ByteArray), .string (⟨#[]⟩ : ByteArray), .int .i64 0, .int .i64 0]) ?_ 0 _ rfl; (with_reducible repeat (first | refine blk_drewN ?_ _ | refine blk_drew ?_ | refine blk_alloc ?_ _)); refine blk_far ?_ NB140_142.out _; (with_reducible repeat (first | refine blk_drewN ?_ _ | refine blk_drew ?_ | refine blk_alloc ?_ _)); exact BK140.out) Tryd.underlying31 rfl (by kernel_rfl)) rfl ?_
            exact ⟨_, by first | rfl | (simp [errW_none, errW_some] <;> rfl) | (simp [*, errW_none, errW_some] <;> rfl), by (with_reducible repeat (first | apply Kd.R_alloc | apply Kd.R_drewN | apply Kd.R_drew)); exact Kd.R_mono (Kd.R_far (p := ⟨gb140, 6, none⟩) (Kd.R_far (p := ⟨gb140, 5, none⟩) (Kd.R_far (p := ⟨gb140, 4, none⟩) (Kd.R_far (p := ⟨gb140, 3, none⟩) (Kd.R_far (p := ⟨gb140, 2, none⟩) (Kd.R_far (p := ⟨gb140, 1, none⟩) (Kd.R_far (p := ⟨gb140, 0, none⟩) (Kd.R_far (p := ⟨gb142, 3, none⟩) (Kd.R_types (Kd.R_types HO_143001.out BK142.out (by decide)) BK140.out (by decide)) (fun _ hk => hk.1.2) (.string t150)) (fun _ hk => hk.2) (.int .u8 ((rd_T31 l0 a1).f0))) (fun _ hk => hk.2) (.slice Ao12 y143.length co12)) (fun _ hk => hk.2) (.int .u8 ((rd_T31 l0 a1).f2))) (fun _ hk => hk.2) (.string t150)) (fun _ hk => hk.2) (.string ((rd_T31 l0 a1).f4))) (fun _ hk => hk.2) (.int .i64 ((rd_T31 l0 a1).f5))) (fun _ hk => hk.2) (.int .i64 ((rd_T31 l0 a1).f6))) (fun _ hk => trivial), by repeat (first | (with_reducible first | exact HB.out | apply below_alloc | apply pw_below_drewN | apply below_drew1 | refine below_set ?_ GE140.out | refine below_set ?_ GE142.out) | exact HB.out)⟩
           ·
            replace c54 := Bool.eq_false_iff.mpr c54
            (try subst c54)
            have H1 : (some (((rd_T31 l0 a1).f0), y143, ((rd_T31 l0 a1).f2), t150, ((rd_T31 l0 a1).f4), ((rd_T31 l0 a1).f5), ((rd_T31 l0 a1).f6), false)) = some (r1, r2, r3, r4, r5, r6, r7, r8) := by first | (rw [if_neg (show ¬ (false = true) by decide)] at H; exact H) | exact absurd c54 (by decide)
            clear H
            have H := H1
            clear H1
            simp only [Option.some.injEq, Prod.mk.injEq] at H
            obtain ⟨rfl, rfl, rfl, rfl, rfl, rfl, rfl, rfl⟩ := H
            have hnb60 := NB142_140.out
            have hnc60 := NB140_142.out
            have hcz61_0 : wc.cell? ⟨gb142, 0, none⟩ = some (.int .u8 ((rd_T31 l0 a1).f0)) := (blk_cell BK142.out 0).trans rfl
            have hcz61_1 : wc.cell? ⟨gb142, 1, none⟩ = some (.slice Ao12 y143.length co12) := (blk_cell BK142.out 1).trans rfl
            have hcz61_2 : wc.cell? ⟨gb142, 2, none⟩ = some (.int .u8 ((rd_T31 l0 a1).f2)) := (blk_cell BK142.out 2).trans rfl
            have hcz61_3 : wc.cell? ⟨gb142, 3, none⟩ = some (.string ((rd_T31 l0 a1).f3)) := (blk_cell BK142.out 3).trans rfl
            have hcz61_4 : wc.cell? ⟨gb142, 4, none⟩ = some (.string ((rd_T31 l0 a1).f4)) := (blk_cell BK142.out 4).trans rfl
            have hcz61_5 : wc.cell? ⟨gb142, 5, none⟩ = some (.int .i64 ((rd_T31 l0 a1).f5)) := (blk_cell BK142.out 5).trans rfl
            have hcz61_6 : wc.cell? ⟨gb142, 6, none⟩ = some (.int .i64 ((rd_T31 l0 a1).f6)) := (blk_cell BK142.out 6).trans rfl
            have hfz61_0 := blk_frozen BK142.out 0
            have hfz61_1 := blk_frozen BK142.out 1
            have hfz61_2 := blk_frozen BK142.out 2
            have hfz61_3 := blk_frozen BK142.out 3
            have hfz61_4 := blk_frozen BK142.out 4
            have hfz61_5 := blk_frozen BK142.out 5
            have hfz61_6 := blk_frozen BK142.out 6
            go_wp2_with (first | ((with_reducible refine gate_callee (f := 31) rfl ?_); refine goesL_ (some 51) rfl rfl Tryd.func31 (by kernel_rfl) rfl #[.slice (some ad141) l0.length c0, .int .i64 a1, .string ((rd_T31 l0 a1).f3)] rfl (by (try simp only [List.map_toArray, List.map_cons, List.map_nil]); first | done | rfl | (simp only [List.length_drop, List.length_take]; rfl)) ?_; (with_reducible refine (quoinref21_field.calls kj28 _ _ l0 a1 ((rd_T31 l0 a1).f3) t150 false _ ?side1 ?side2 A36.out).mono ?_); (case side1 => repeat (first | exact (Kd.C_below HR0.out HB.out) | (with_reducible refine Kd.C_alloc ?_ _) | (with_reducible refine Kd.C_drewN ?_ _) | (with_reducible refine Kd.C_drew ?_))); (case side2 => exact HC0.out); rintro e w62 ⟨rfl, hb⟩; refine ⟨_, rfl, ?_⟩; have n0_ := Aside0.mk (Kd.R_below (by (with_reducible repeat (first | apply Kd.R_alloc | apply Kd.R_drewN | apply Kd.R_drew)); exact HO_143001.out) hb); have n1_ := Aside0.mk (blk_below (g := gb140) (o := .cells #[.int .u8 0, .slice none 0 0, .int .u8 0, .string (⟨#[]⟩ : ByteArray), .string (⟨#[]⟩ : ByteArray), .int .i64 0, .int .i64 0] 31 (0, 0)) (by (with_reducible repeat (first | refine blk_drewN ?_ _ | refine blk_drew ?_ | refine blk_alloc ?_ _)); exact BK140.out) hb); have n2_ := Aside0.mk (blk_below (g := gb142) (o := .cells #[.int .u8 ((rd_T31 l0 a1).f0), .slice Ao12 y143.length co12, .int .u8 ((rd_T31 l0 a1).f2), .string ((rd_T31 l0 a1).f3), .string ((rd_T31 l0 a1).f4), .int .i64 ((rd_T31 l0 a1).f5), .int .i64 ((rd_T31 l0 a1).f6)] 31 (0, 0)) (by (with_reducible repeat (first | refine blk_drewN ?_ _ | refine blk_drew ?_ | refine blk_alloc ?_ _)); exact BK142.out) hb); have n3_ := Aside0.mk (below_step (by repeat (first | (with_reducible first | exact HB.out | apply below_alloc | apply pw_below_drewN | apply below_drew1 | refine below_set ?_ GE140.out | refine below_set ?_ GE142.out) | exact HB.out)) hb); clear HO_143001; clear BK140; clear BK142; clear HB; have HO_143001 := n0_; have BK140 := n1_; have BK142 := n2_; have HB := n3_; clear n0_ n1_ n2_ n3_; (try clear hb); (try clear hb2); (try clear hk); (try clear hi); have hcz63_0 : w62.cell? ⟨gb142, 0, none⟩ = some (.int .u8 ((rd_T31 l0 a1).f0)) := (blk_cell BK142.out 0).trans rfl; have hcz63_1 : w62.cell? ⟨gb142, 1, none⟩ = some (.slice Ao12 y143.length co12) := (blk_cell BK142.out 1).trans rfl; have hcz63_2 : w62.cell? ⟨gb142, 2, none⟩ = some (.int .u8 ((rd_T31 l0 a1).f2)) := (blk_cell BK142.out 2).trans rfl; have hcz63_3 : w62.cell? ⟨gb142, 3, none⟩ = some (.string ((rd_T31 l0 a1).f3)) := (blk_cell BK142.out 3).trans rfl; have hcz63_4 : w62.cell? ⟨gb142, 4, none⟩ = some (.string ((rd_T31 l0 a1).f4)) := (blk_cell BK142.out 4).trans rfl; have hcz63_5 : w62.cell? ⟨gb142, 5, none⟩ = some (.int .i64 ((rd_T31 l0 a1).f5)) := (blk_cell BK142.out 5).trans rfl; have hcz63_6 : w62.cell? ⟨gb142, 6, none⟩ = some (.int .i64 ((rd_T31 l0 a1).f6)) := (blk_cell BK142.out 6).trans rfl; have hfz63_0 := blk_frozen BK142.out 0; have hfz63_1 := blk_frozen BK142.out 1; have hfz63_2 := blk_frozen BK142.out 2; have hfz63_3 := blk_frozen BK142.out 3; have hfz63_4 := blk_frozen BK142.out 4; have hfz63_5 := blk_frozen BK142.out 5; have hfz63_6 := blk_frozen BK142.out 6; have hcz64_0 : w62.cell? ⟨gb140, 0, none⟩ = some (.int .u8 0) := (blk_cell BK140.out 0).trans rfl; have hcz64_1 : w62.cell? ⟨gb140, 1, none⟩ = some (.slice none 0 0) := (blk_cell BK140.out 1).trans rfl; have hcz64_2 : w62.cell? ⟨gb140, 2, none⟩ = some (.int .u8 0) := (blk_cell BK140.out 2).trans rfl; have hcz64_3 : w62.cell? ⟨gb140, 3, none⟩ = some (.string (⟨#[]⟩ : ByteArray)) := (blk_cell BK140.out 3).trans rfl; have hcz64_4 : w62.cell? ⟨gb140, 4, none⟩ = some (.string (⟨#[]⟩ : ByteArray)) := (blk_cell BK140.out 4).trans rfl; have hcz64_5 : w62.cell? ⟨gb140, 5, none⟩ = some (.int .i64 0) := (blk_cell BK140.out 5).trans rfl; have hcz64_6 : w62.cell? ⟨gb140, 6, none⟩ = some (.int .i64 0) := (blk_cell BK140.out 6).trans rfl; have hfz64_0 := blk_frozen BK140.out 0; have hfz64_1 := blk_frozen BK140.out 1; have hfz64_2 := blk_frozen BK140.out 2; have hfz64_3 := blk_frozen BK140.out 3; have hfz64_4 := blk_frozen BK140.out 4; have hfz64_5 := blk_frozen BK140.out 5; have hfz64_6 := blk_frozen BK140.out 6))
            refine bodyPost_ret (results_ct rfl _ _ gb140 31 #[.int .u8 ((rd_T31 l0 a1).f0), .slice Ao12 y143.length co12, .int .u8 ((rd_T31 l0 a1).f2), .string t150, .string ((rd_T31 l0 a1).f4), .int .i64 ((rd_T31 l0 a1).f5), .int .i64 ((rd_T31 l0 a1).f6)] (0, 0) _ rfl (by (with_reducible repeat (first | refine blk_drewN ?_ _ | refine blk_drew ?_ | refine blk_alloc ?_ _)); refine blk_put (cs := #[.int .u8 ((rd_T31 l0 a1).f0), .slice Ao12 y143.length co12, .int .u8 ((rd_T31 l0 a1).f2), .string t150, .string ((rd_T31 l0 a1).f4), .int .i64 ((rd_T31 l0 a1).f5), .int .i64 0]) ?_ 6 _ rfl; (with_reducible repeat (first | refine blk_drewN ?_ _ | refine blk_drew ?_ | refine blk_alloc ?_ _)); refine blk_put (cs := #[.int .u8 ((rd_T31 l0 a1).f0), .slice Ao12 y143.length co12, .int .u8 ((rd_T31 l0 a1).f2), .string t150, .string ((rd_T31 l0 a1).f4), .int .i64 0, .int .i64 0]) ?_ 5 _ rfl; (with_reducible repeat (first | refine blk_drewN ?_ _ | refine blk_drew ?_ | refine blk_alloc ?_ _)); refine blk_put (cs := #[.int .u8 ((rd_T31 l0 a1).f0), .slice Ao12 y143.length co12, .int .u8 ((rd_T31 l0 a1).f2), .string t150, .string (⟨#[]⟩ : ByteArray), .int .i64 0, .int .i64 0]) ?_ 4 _ rfl; (with_reducible repeat (first | refine blk_drewN ?_ _ | refine blk_drew ?_ | refine blk_alloc ?_ _)); refine blk_put (cs := #[.int .u8 ((rd_T31 l0 a1).f0), .slice Ao12 y143.length co12, .int .u8 ((rd_T31 l0 a1).f2), .string (⟨#[]⟩ : ByteArray), .string (⟨#[]⟩ : ByteArray), .int .i64 0, .int .i64 0]) ?_ 3 _ rfl; (with_reducible repeat (first | refine blk_drewN ?_ _ | refine blk_drew ?_ | refine blk_alloc ?_ _)); refine blk_put (cs := #[.int .u8 ((rd_T31 l0 a1).f0), .slice Ao12 y143.length co12, .int .u8 0, .string (⟨#[]⟩ : ByteArray), .string (⟨#[]⟩ : ByteArray), .int .i64 0, .int .i64 0]) ?_ 2 _ rfl; (with_reducible repeat (first | refine blk_drewN ?_ _ | refine blk_drew ?_ | refine blk_alloc ?_ _)); refine blk_put (cs := #[.int .u8 ((rd_T31 l0 a1).f0), .slice none 0 0, .int .u8 0, .string (⟨#[]⟩ : ByteArray), .string (⟨#[]⟩ : ByteArray), .int .i64 0, .int .i64 0]) ?_ 1 _ rfl; (with_reducible repeat (first | refine blk_drewN ?_ _ | refine blk_drew ?_ | refine blk_alloc ?_ _)); refine blk_put (cs := #[.int .u8 0, .slice none 0 0, .int .u8 0, .string (⟨#[]⟩ : ByteArray), .string (⟨#[]⟩ : ByteArray), .int .i64 0, .int .i64 0]) ?_ 0 _ rfl; (with_reducible repeat (first | refine blk_drewN ?_ _ | refine blk_drew ?_ | refine blk_alloc ?_ _)); refine blk_far ?_ NB140_142.out _; (with_reducible repeat (first | refine blk_drewN ?_ _ | refine blk_drew ?_ | refine blk_alloc ?_ _)); exact BK140.out) Tryd.underlying31 rfl (by kernel_rfl)) rfl ?_
            exact ⟨_, by first | rfl | (simp [errW_none, errW_some] <;> rfl) | (simp [*, errW_none, errW_some] <;> rfl), by (with_reducible repeat (first | apply Kd.R_alloc | apply Kd.R_drewN | apply Kd.R_drew)); exact Kd.R_mono (Kd.R_far (p := ⟨gb140, 6, none⟩) (Kd.R_far (p := ⟨gb140, 5, none⟩) (Kd.R_far (p := ⟨gb140, 4, none⟩) (Kd.R_far (p := ⟨gb140, 3, none⟩) (Kd.R_far (p := ⟨gb140, 2, none⟩) (Kd.R_far (p := ⟨gb140, 1, none⟩) (Kd.R_far (p := ⟨gb140, 0, none⟩) (Kd.R_far (p := ⟨gb142, 3, none⟩) (Kd.R_types (Kd.R_types HO_143001.out BK142.out (by decide)) BK140.out (by decide)) (fun _ hk => hk.1.2) (.string t150)) (fun _ hk => hk.2) (.int .u8 ((rd_T31 l0 a1).f0))) (fun _ hk => hk.2) (.slice Ao12 y143.length co12)) (fun _ hk => hk.2) (.int .u8 ((rd_T31 l0 a1).f2))) (fun _ hk => hk.2) (.string t150)) (fun _ hk => hk.2) (.string ((rd_T31 l0 a1).f4))) (fun _ hk => hk.2) (.int .i64 ((rd_T31 l0 a1).f5))) (fun _ hk => hk.2) (.int .i64 ((rd_T31 l0 a1).f6))) (fun _ hk => trivial), by repeat (first | (with_reducible first | exact HB.out | apply below_alloc | apply pw_below_drewN | apply below_drew1 | refine below_set ?_ GE140.out | refine below_set ?_ GE142.out) | exact HB.out)⟩
         ·
          replace c35 := Bool.eq_false_iff.mpr c35
          (try subst c35)
          have H1 : (if ((rd_T31 l0 a1).f0) = 3 then ((quoinref21_field.f kj28 l0 a1 ((rd_T31 l0 a1).f4)).bind fun bt154 => (if true = true then (some (((rd_T31 l0 a1).f0), y143, ((rd_T31 l0 a1).f2), ((rd_T31 l0 a1).f3), bt154.1, ((rd_T31 l0 a1).f5), ((rd_T31 l0 a1).f6), bt154.2)) else (some (((rd_T31 l0 a1).f0), y143, ((rd_T31 l0 a1).f2), ((rd_T31 l0 a1).f3), bt154.1, ((rd_T31 l0 a1).f5), ((rd_T31 l0 a1).f6), false)))) else (if true = true then (some (((rd_T31 l0 a1).f0), y143, ((rd_T31 l0 a1).f2), ((rd_T31 l0 a1).f3), ((rd_T31 l0 a1).f4), ((rd_T31 l0 a1).f5), ((rd_T31 l0 a1).f6), true)) else (some (((rd_T31 l0 a1).f0), y143, ((rd_T31 l0 a1).f2), ((rd_T31 l0 a1).f3), ((rd_T31 l0 a1).f4), ((rd_T31 l0 a1).f5), ((rd_T31 l0 a1).f6), false)))) = some (r1, r2, r3, r4, r5, r6, r7, r8) := by first | (rw [if_neg (show ¬ (false = true) by decide)] at H; exact H) | exact absurd c35 (by decide)
          clear H
          have H := H1
          clear H1
          by_cases c65 : ((rd_T31 l0 a1).f0) = 3
          ·
           rw [if_pos c65] at H
           have c65b0 : (((rd_T31 l0 a1).f0) == 3) = true := beq_iff_eq.mpr c65
           have c65b1 : (((rd_T31 l0 a1).f0) != 3) = false := bne_eq_false_iff_eq.mpr c65
           clear c65
           replace H := Option.bind_eq_some_iff.mp H
           obtain ⟨⟨t154, t155⟩, A660, H⟩ := H
           replace H : (if true = true then (some (((rd_T31 l0 a1).f0), y143, ((rd_T31 l0 a1).f2), ((rd_T31 l0 a1).f3), t154, ((rd_T31 l0 a1).f5), ((rd_T31 l0 a1).f6), t155)) else (some (((rd_T31 l0 a1).f0), y143, ((rd_T31 l0 a1).f2), ((rd_T31 l0 a1).f3), t154, ((rd_T31 l0 a1).f5), ((rd_T31 l0 a1).f6), false))) = some (r1, r2, r3, r4, r5, r6, r7, r8) := H
           have A66 := Aside0.mk A660
           clear A660
           by_cases c67 : true = true
           ·
            (try subst c67)
            have H1 : (some (((rd_T31 l0 a1).f0), y143, ((rd_T31 l0 a1).f2), ((rd_T31 l0 a1).f3), t154, ((rd_T31 l0 a1).f5), ((rd_T31 l0 a1).f6), t155)) = some (r1, r2, r3, r4, r5, r6, r7, r8) := by rw [if_pos rfl] at H; exact H
            clear H
            have H := H1
            clear H1
            simp only [Option.some.injEq, Prod.mk.injEq] at H
            obtain ⟨rfl, rfl, rfl, rfl, rfl, rfl, rfl, rfl⟩ := H
            have hnb68 := NB142_140.out
            have hnc68 := NB140_142.out
            have hcz69_0 : wc.cell? ⟨gb142, 0, none⟩ = some (.int .u8 ((rd_T31 l0 a1).f0)) := (blk_cell BK142.out 0).trans rfl
            have hcz69_1 : wc.cell? ⟨gb142, 1, none⟩ = some (.slice Ao12 y143.length co12) := (blk_cell BK142.out 1).trans rfl
            have hcz69_2 : wc.cell? ⟨gb142, 2, none⟩ = some (.int .u8 ((rd_T31 l0 a1).f2)) := (blk_cell BK142.out 2).trans rfl
            have hcz69_3 : wc.cell? ⟨gb142, 3, none⟩ = some (.string ((rd_T31 l0 a1).f3)) := (blk_cell BK142.out 3).trans rfl
            have hcz69_4 : wc.cell? ⟨gb142, 4, none⟩ = some (.string ((rd_T31 l0 a1).f4)) := (blk_cell BK142.out 4).trans rfl
            have hcz69_5 : wc.cell? ⟨gb142, 5, none⟩ = some (.int .i64 ((rd_T31 l0 a1).f5)) := (blk_cell BK142.out 5).trans rfl
            have hcz69_6 : wc.cell? ⟨gb142, 6, none⟩ = some (.int .i64 ((rd_T31 l0 a1).f6)) := (blk_cell BK142.out 6).trans rfl
            have hfz69_0 := blk_frozen BK142.out 0
            have hfz69_1 := blk_frozen BK142.out 1
            have hfz69_2 := blk_frozen BK142.out 2
            have hfz69_3 := blk_frozen BK142.out 3
            have hfz69_4 := blk_frozen BK142.out 4
            have hfz69_5 := blk_frozen BK142.out 5
            have hfz69_6 := blk_frozen BK142.out 6
            go_wp2_with (first | ((with_reducible refine gate_callee (f := 31) rfl ?_); refine goesL_ (some 63) rfl rfl Tryd.func31 (by kernel_rfl) rfl #[.slice (some ad141) l0.length c0, .int .i64 a1, .string ((rd_T31 l0 a1).f4)] rfl (by (try simp only [List.map_toArray, List.map_cons, List.map_nil]); first | done | rfl | (simp only [List.length_drop, List.length_take]; rfl)) ?_; (with_reducible refine (quoinref21_field.calls kj28 _ _ l0 a1 ((rd_T31 l0 a1).f4) t154 t155 _ ?side1 ?side2 A66.out).mono ?_); (case side1 => repeat (first | exact (Kd.C_below HR0.out HB.out) | (with_reducible refine Kd.C_alloc ?_ _) | (with_reducible refine Kd.C_drewN ?_ _) | (with_reducible refine Kd.C_drew ?_))); (case side2 => exact HC0.out); rintro e w70 ⟨rfl, hb⟩; refine ⟨_, rfl, ?_⟩; have n0_ := Aside0.mk (Kd.R_below (by (with_reducible repeat (first | apply Kd.R_alloc | apply Kd.R_drewN | apply Kd.R_drew)); exact HO_143001.out) hb); have n1_ := Aside0.mk (blk_below (g := gb140) (o := .cells #[.int .u8 0, .slice none 0 0, .int .u8 0, .string (⟨#[]⟩ : ByteArray), .string (⟨#[]⟩ : ByteArray), .int .i64 0, .int .i64 0] 31 (0, 0)) (by (with_reducible repeat (first | refine blk_drewN ?_ _ | refine blk_drew ?_ | refine blk_alloc ?_ _)); exact BK140.out) hb); have n2_ := Aside0.mk (blk_below (g := gb142) (o := .cells #[.int .u8 ((rd_T31 l0 a1).f0), .slice Ao12 y143.length co12, .int .u8 ((rd_T31 l0 a1).f2), .string ((rd_T31 l0 a1).f3), .string ((rd_T31 l0 a1).f4), .int .i64 ((rd_T31 l0 a1).f5), .int .i64 ((rd_T31 l0 a1).f6)] 31 (0, 0)) (by (with_reducible repeat (first | refine blk_drewN ?_ _ | refine blk_drew ?_ | refine blk_alloc ?_ _)); exact BK142.out) hb); have n3_ := Aside0.mk (below_step (by repeat (first | (with_reducible first | exact HB.out | apply below_alloc | apply pw_below_drewN | apply below_drew1 | refine below_set ?_ GE140.out | refine below_set ?_ GE142.out) | exact HB.out)) hb); clear HO_143001; clear BK140; clear BK142; clear HB; have HO_143001 := n0_; have BK140 := n1_; have BK142 := n2_; have HB := n3_; clear n0_ n1_ n2_ n3_; (try clear hb); (try clear hb2); (try clear hk); (try clear hi); have hcz71_0 : w70.cell? ⟨gb142, 0, none⟩ = some (.int .u8 ((rd_T31 l0 a1).f0)) := (blk_cell BK142.out 0).trans rfl; have hcz71_1 : w70.cell? ⟨gb142, 1, none⟩ = some (.slice Ao12 y143.length co12) := (blk_cell BK142.out 1).trans rfl; have hcz71_2 : w70.cell? ⟨gb142, 2, none⟩ = some (.int .u8 ((rd_T31 l0 a1).f2)) := (blk_cell BK142.out 2).trans rfl; have hcz71_3 : w70.cell? ⟨gb142, 3, none⟩ = some (.string ((rd_T31 l0 a1).f3)) := (blk_cell BK142.out 3).trans rfl; have hcz71_4 : w70.cell? ⟨gb142, 4, none⟩ = some (.string ((rd_T31 l0 a1).f4)) := (blk_cell BK142.out 4).trans rfl; have hcz71_5 : w70.cell? ⟨gb142, 5, none⟩ = some (.int .i64 ((rd_T31 l0 a1).f5)) := (blk_cell BK142.out 5).trans rfl; have hcz71_6 : w70.cell? ⟨gb142, 6, none⟩ = some (.int .i64 ((rd_T31 l0 a1).f6)) := (blk_cell BK142.out 6).trans rfl; have hfz71_0 := blk_frozen BK142.out 0; have hfz71_1 := blk_frozen BK142.out 1; have hfz71_2 := blk_frozen BK142.out 2; have hfz71_3 := blk_frozen BK142.out 3; have hfz71_4 := blk_frozen BK142.out 4; have hfz71_5 := blk_frozen BK142.out 5; have hfz71_6 := blk_frozen BK142.out 6; have hcz72_0 : w70.cell? ⟨gb140, 0, none⟩ = some (.int .u8 0) := (blk_cell BK140.out 0).trans rfl; have hcz72_1 : w70.cell? ⟨gb140, 1, none⟩ = some (.slice none 0 0) := (blk_cell BK140.out 1).trans rfl; have hcz72_2 : w70.cell? ⟨gb140, 2, none⟩ = some (.int .u8 0) := (blk_cell BK140.out 2).trans rfl; have hcz72_3 : w70.cell? ⟨gb140, 3, none⟩ = some (.string (⟨#[]⟩ : ByteArray)) := (blk_cell BK140.out 3).trans rfl; have hcz72_4 : w70.cell? ⟨gb140, 4, none⟩ = some (.string (⟨#[]⟩ : ByteArray)) := (blk_cell BK140.out 4).trans rfl; have hcz72_5 : w70.cell? ⟨gb140, 5, none⟩ = some (.int .i64 0) := (blk_cell BK140.out 5).trans rfl; have hcz72_6 : w70.cell? ⟨gb140, 6, none⟩ = some (.int .i64 0) := (blk_cell BK140.out 6).trans rfl; have hfz72_0 := blk_frozen BK140.out 0; have hfz72_1 := blk_frozen BK140.out 1; have hfz72_2 := blk_frozen BK140.out 2; have hfz72_3 := blk_frozen BK140.out 3; have hfz72_4 := blk_frozen BK140.out 4; have hfz72_5 := blk_frozen BK140.out 5; have hfz72_6 := blk_frozen BK140.out 6))
            refine bodyPost_ret (results_ct rfl _ _ gb140 31 #[.int .u8 ((rd_T31 l0 a1).f0), .slice Ao12 y143.length co12, .int .u8 ((rd_T31 l0 a1).f2), .string ((rd_T31 l0 a1).f3), .string t154, .int .i64 ((rd_T31 l0 a1).f5), .int .i64 ((rd_T31 l0 a1).f6)] (0, 0) _ rfl (by (with_reducible repeat (first | refine blk_drewN ?_ _ | refine blk_drew ?_ | refine blk_alloc ?_ _)); refine blk_put (cs := #[.int .u8 ((rd_T31 l0 a1).f0), .slice Ao12 y143.length co12, .int .u8 ((rd_T31 l0 a1).f2), .string ((rd_T31 l0 a1).f3), .string t154, .int .i64 ((rd_T31 l0 a1).f5), .int .i64 0]) ?_ 6 _ rfl; (with_reducible repeat (first | refine blk_drewN ?_ _ | refine blk_drew ?_ | refine blk_alloc ?_ _)); refine blk_put (cs := #[.int .u8 ((rd_T31 l0 a1).f0), .slice Ao12 y143.length co12, .int .u8 ((rd_T31 l0 a1).f2), .string ((rd_T31 l0 a1).f3), .string t154, .int .i64 0, .int .i64 0]) ?_ 5 _ rfl; (with_reducible repeat (first | refine blk_drewN ?_ _ | refine blk_drew ?_ | refine blk_alloc ?_ _)); refine blk_put (cs := #[.int .u8 ((rd_T31 l0 a1).f0), .slice Ao12 y143.length co12, .int .u8 ((rd_T31 l0 a1).f2), .string ((rd_T31 l0 a1).f3), .string (⟨#[]⟩ : ByteArray), .int .i64 0, .int .i64 0]) ?_ 4 _ rfl; (with_reducible repeat (first | refine blk_drewN ?_ _ | refine blk_drew ?_ | refine blk_alloc ?_ _)); refine blk_put (cs := #[.int .u8 ((rd_T31 l0 a1).f0), .slice Ao12 y143.length co12, .int .u8 ((rd_T31 l0 a1).f2), .string (⟨#[]⟩ : ByteArray), .string (⟨#[]⟩ : ByteArray), .int .i64 0, .int .i64 0]) ?_ 3 _ rfl; (with_reducible repeat (first | refine blk_drewN ?_ _ | refine blk_drew ?_ | refine blk_alloc ?_ _)); refine blk_put (cs := #[.int .u8 ((rd_T31 l0 a1).f0), .slice Ao12 y143.length co12, .int .u8 0, .string (⟨#[]⟩ : ByteArray), .string (⟨#[]⟩ : ByteArray), .int .i64 0, .int .i64 0]) ?_ 2 _ rfl; (with_reducible repeat (first | refine blk_drewN ?_ _ | refine blk_drew ?_ | refine blk_alloc ?_ _)); refine blk_put (cs := #[.int .u8 ((rd_T31 l0 a1).f0), .slice none 0 0, .int .u8 0, .string (⟨#[]⟩ : ByteArray), .string (⟨#[]⟩ : ByteArray), .int .i64 0, .int .i64 0]) ?_ 1 _ rfl; (with_reducible repeat (first | refine blk_drewN ?_ _ | refine blk_drew ?_ | refine blk_alloc ?_ _)); refine blk_put (cs := #[.int .u8 0, .slice none 0 0, .int .u8 0, .string (⟨#[]⟩ : ByteArray), .string (⟨#[]⟩ : ByteArray), .int .i64 0, .int .i64 0]) ?_ 0 _ rfl; (with_reducible repeat (first | refine blk_drewN ?_ _ | refine blk_drew ?_ | refine blk_alloc ?_ _)); refine blk_far ?_ NB140_142.out _; (with_reducible repeat (first | refine blk_drewN ?_ _ | refine blk_drew ?_ | refine blk_alloc ?_ _)); exact BK140.out) Tryd.underlying31 rfl (by kernel_rfl)) rfl ?_
            exact ⟨_, by first | rfl | (simp [errW_none, errW_some] <;> rfl) | (simp [*, errW_none, errW_some] <;> rfl), by (with_reducible repeat (first | apply Kd.R_alloc | apply Kd.R_drewN | apply Kd.R_drew)); exact Kd.R_mono (Kd.R_far (p := ⟨gb140, 6, none⟩) (Kd.R_far (p := ⟨gb140, 5, none⟩) (Kd.R_far (p := ⟨gb140, 4, none⟩) (Kd.R_far (p := ⟨gb140, 3, none⟩) (Kd.R_far (p := ⟨gb140, 2, none⟩) (Kd.R_far (p := ⟨gb140, 1, none⟩) (Kd.R_far (p := ⟨gb140, 0, none⟩) (Kd.R_far (p := ⟨gb142, 4, none⟩) (Kd.R_types (Kd.R_types HO_143001.out BK142.out (by decide)) BK140.out (by decide)) (fun _ hk => hk.1.2) (.string t154)) (fun _ hk => hk.2) (.int .u8 ((rd_T31 l0 a1).f0))) (fun _ hk => hk.2) (.slice Ao12 y143.length co12)) (fun _ hk => hk.2) (.int .u8 ((rd_T31 l0 a1).f2))) (fun _ hk => hk.2) (.string ((rd_T31 l0 a1).f3))) (fun _ hk => hk.2) (.string t154)) (fun _ hk => hk.2) (.int .i64 ((rd_T31 l0 a1).f5))) (fun _ hk => hk.2) (.int .i64 ((rd_T31 l0 a1).f6))) (fun _ hk => trivial), by repeat (first | (with_reducible first | exact HB.out | apply below_alloc | apply pw_below_drewN | apply below_drew1 | refine below_set ?_ GE140.out | refine below_set ?_ GE142.out) | exact HB.out)⟩
           · exact absurd rfl c67
          ·
           rw [if_neg c65] at H
           have c65b0 : (((rd_T31 l0 a1).f0) == 3) = false := beq_eq_false_iff_ne.mpr c65
           have c65b1 : (((rd_T31 l0 a1).f0) != 3) = true := bne_iff_ne.mpr c65
           by_cases c78 : true = true
           ·
            (try subst c78)
            have H1 : (some (((rd_T31 l0 a1).f0), y143, ((rd_T31 l0 a1).f2), ((rd_T31 l0 a1).f3), ((rd_T31 l0 a1).f4), ((rd_T31 l0 a1).f5), ((rd_T31 l0 a1).f6), true)) = some (r1, r2, r3, r4, r5, r6, r7, r8) := by rw [if_pos rfl] at H; exact H
            clear H
            have H := H1
            clear H1
            simp only [Option.some.injEq, Prod.mk.injEq] at H
            obtain ⟨rfl, rfl, rfl, rfl, rfl, rfl, rfl, rfl⟩ := H
            have hnb79 := NB142_140.out
            have hnc79 := NB140_142.out
            have hcz80_0 : wc.cell? ⟨gb142, 0, none⟩ = some (.int .u8 ((rd_T31 l0 a1).f0)) := (blk_cell BK142.out 0).trans rfl
            have hcz80_1 : wc.cell? ⟨gb142, 1, none⟩ = some (.slice Ao12 y143.length co12) := (blk_cell BK142.out 1).trans rfl
            have hcz80_2 : wc.cell? ⟨gb142, 2, none⟩ = some (.int .u8 ((rd_T31 l0 a1).f2)) := (blk_cell BK142.out 2).trans rfl
            have hcz80_3 : wc.cell? ⟨gb142, 3, none⟩ = some (.string ((rd_T31 l0 a1).f3)) := (blk_cell BK142.out 3).trans rfl
            have hcz80_4 : wc.cell? ⟨gb142, 4, none⟩ = some (.string ((rd_T31 l0 a1).f4)) := (blk_cell BK142.out 4).trans rfl
            have hcz80_5 : wc.cell? ⟨gb142, 5, none⟩ = some (.int .i64 ((rd_T31 l0 a1).f5)) := (blk_cell BK142.out 5).trans rfl
            have hcz80_6 : wc.cell? ⟨gb142, 6, none⟩ = some (.int .i64 ((rd_T31 l0 a1).f6)) := (blk_cell BK142.out 6).trans rfl
            have hfz80_0 := blk_frozen BK142.out 0
            have hfz80_1 := blk_frozen BK142.out 1
            have hfz80_2 := blk_frozen BK142.out 2
            have hfz80_3 := blk_frozen BK142.out 3
            have hfz80_4 := blk_frozen BK142.out 4
            have hfz80_5 := blk_frozen BK142.out 5
            have hfz80_6 := blk_frozen BK142.out 6
            have hcz81_0 : wc.cell? ⟨gb140, 0, none⟩ = some (.int .u8 0) := (blk_cell BK140.out 0).trans rfl
            have hcz81_1 : wc.cell? ⟨gb140, 1, none⟩ = some (.slice none 0 0) := (blk_cell BK140.out 1).trans rfl
            have hcz81_2 : wc.cell? ⟨gb140, 2, none⟩ = some (.int .u8 0) := (blk_cell BK140.out 2).trans rfl
            have hcz81_3 : wc.cell? ⟨gb140, 3, none⟩ = some (.string (⟨#[]⟩ : ByteArray)) := (blk_cell BK140.out 3).trans rfl
            have hcz81_4 : wc.cell? ⟨gb140, 4, none⟩ = some (.string (⟨#[]⟩ : ByteArray)) := (blk_cell BK140.out 4).trans rfl
            have hcz81_5 : wc.cell? ⟨gb140, 5, none⟩ = some (.int .i64 0) := (blk_cell BK140.out 5).trans rfl
            have hcz81_6 : wc.cell? ⟨gb140, 6, none⟩ = some (.int .i64 0) := (blk_cell BK140.out 6).trans rfl
            have hfz81_0 := blk_frozen BK140.out 0
            have hfz81_1 := blk_frozen BK140.out 1
            have hfz81_2 := blk_frozen BK140.out 2
            have hfz81_3 := blk_frozen BK140.out 3
            have hfz81_4 := blk_frozen BK140.out 4
            have hfz81_5 := blk_frozen BK140.out 5
            have hfz81_6 := blk_frozen BK140.out 6
            go_wp2
            refine bodyPost_ret (results_ct rfl _ _ gb140 31 #[.int .u8 ((rd_T31 l0 a1).f0), .slice Ao12 y143.length co12, .int .u8 ((rd_T31 l0 a1).f2), .string ((rd_T31 l0 a1).f3), .string ((rd_T31 l0 a1).f4), .int .i64 ((rd_T31 l0 a1).f5), .int .i64 ((rd_T31 l0 a1).f6)] (0, 0) _ rfl (by (with_reducible repeat (first | refine blk_drewN ?_ _ | refine blk_drew ?_ | refine blk_alloc ?_ _)); refine blk_put (cs := #[.int .u8 ((rd_T31 l0 a1).f0), .slice Ao12 y143.length co12, .int .u8 ((rd_T31 l0 a1).f2), .string ((rd_T31 l0 a1).f3), .string ((rd_T31 l0 a1).f4), .int .i64 ((rd_T31 l0 a1).f5), .int .i64 0]) ?_ 6 _ rfl; (with_reducible repeat (first | refine blk_drewN ?_ _ | refine blk_drew ?_ | refine blk_alloc ?_ _)); refine blk_put (cs := #[.int .u8 ((rd_T31 l0 a1).f0), .slice Ao12 y143.length co12, .int .u8 ((rd_T31 l0 a1).f2), .string ((rd_T31 l0 a1).f3), .string ((rd_T31 l0 a1).f4), .int .i64 0, .int .i64 0]) ?_ 5 _ rfl; (with_reducible repeat (first | refine blk_drewN ?_ _ | refine blk_drew ?_ | refine blk_alloc ?_ _)); refine blk_put (cs := #[.int .u8 ((rd_T31 l0 a1).f0), .slice Ao12 y143.length co12, .int .u8 ((rd_T31 l0 a1).f2), .string ((rd_T31 l0 a1).f3), .string (⟨#[]⟩ : ByteArray), .int .i64 0, .int .i64 0]) ?_ 4 _ rfl; (with_reducible repeat (first | refine blk_drewN ?_ _ | refine blk_drew ?_ | refine blk_alloc ?_ _)); refine blk_put (cs := #[.int .u8 ((rd_T31 l0 a1).f0), .slice Ao12 y143.length co12, .int .u8 ((rd_T31 l0 a1).f2), .string (⟨#[]⟩ : ByteArray), .string (⟨#[]⟩ : ByteArray), .int .i64 0, .int .i64 0]) ?_ 3 _ rfl; (with_reducible repeat (first | refine blk_drewN ?_ _ | refine blk_drew ?_ | refine blk_alloc ?_ _)); refine blk_put (cs := #[.int .u8 ((rd_T31 l0 a1).f0), .slice Ao12 y143.length co12, .int .u8 0, .string (⟨#[]⟩ : ByteArray), .string (⟨#[]⟩ : ByteArray), .int .i64 0, .int .i64 0]) ?_ 2 _ rfl; (with_reducible repeat (first | refine blk_drewN ?_ _ | refine blk_drew ?_ | refine blk_alloc ?_ _)); refine blk_put (cs := #[.int .u8 ((rd_T31 l0 a1).f0), .slice none 0 0, .int .u8 0, .string (⟨#[]⟩ : ByteArray), .string (⟨#[]⟩ : ByteArray), .int .i64 0, .int .i64 0]) ?_ 1 _ rfl; (with_reducible repeat (first | refine blk_drewN ?_ _ | refine blk_drew ?_ | refine blk_alloc ?_ _)); refine blk_put (cs := #[.int .u8 0, .slice none 0 0, .int .u8 0, .string (⟨#[]⟩ : ByteArray), .string (⟨#[]⟩ : ByteArray), .int .i64 0, .int .i64 0]) ?_ 0 _ rfl; (with_reducible repeat (first | refine blk_drewN ?_ _ | refine blk_drew ?_ | refine blk_alloc ?_ _)); exact BK140.out) Tryd.underlying31 rfl (by kernel_rfl)) rfl ?_
            exact ⟨_, by first | rfl | (simp [errW_none, errW_some] <;> rfl) | (simp [*, errW_none, errW_some] <;> rfl), by (with_reducible repeat (first | apply Kd.R_alloc | apply Kd.R_drewN | apply Kd.R_drew)); exact Kd.R_mono (Kd.R_far (p := ⟨gb140, 6, none⟩) (Kd.R_far (p := ⟨gb140, 5, none⟩) (Kd.R_far (p := ⟨gb140, 4, none⟩) (Kd.R_far (p := ⟨gb140, 3, none⟩) (Kd.R_far (p := ⟨gb140, 2, none⟩) (Kd.R_far (p := ⟨gb140, 1, none⟩) (Kd.R_far (p := ⟨gb140, 0, none⟩) (Kd.R_types HO_143001.out BK140.out (by decide)) (fun _ hk => hk.2) (.int .u8 ((rd_T31 l0 a1).f0))) (fun _ hk => hk.2) (.slice Ao12 y143.length co12)) (fun _ hk => hk.2) (.int .u8 ((rd_T31 l0 a1).f2))) (fun _ hk => hk.2) (.string ((rd_T31 l0 a1).f3))) (fun _ hk => hk.2) (.string ((rd_T31 l0 a1).f4))) (fun _ hk => hk.2) (.int .i64 ((rd_T31 l0 a1).f5))) (fun _ hk => hk.2) (.int .i64 ((rd_T31 l0 a1).f6))) (fun _ hk => trivial), by repeat (first | (with_reducible first | exact HB.out | apply below_alloc | apply pw_below_drewN | apply below_drew1 | refine below_set ?_ GE140.out | refine below_set ?_ GE142.out) | exact HB.out)⟩
           · exact absurd rfl c78
   ·
    rw [if_neg c5] at H
    exact absurd H (by simp)
  ·
   rw [if_neg c4] at H
   exact absurd H (by simp)
 ·
  rw [if_neg c3] at H
  exact absurd H (by simp)

end Go.Proofs.YtkjmbfabgkppaaaDoor.P
