-- Written by pext.py, a program of this session, over the kit's print: a function's contract
import Derived.Test.YtkjmbfabgkppaaaDoorPx0
import Derived.Test.YtkjmbfabgkppaaaDoorPx1
import Derived.Test.YtkjmbfabgkppaaaDoorPx2
import Derived.Test.YtkjmbfabgkppaaaDoorPx3
import Derived.Test.YtkjmbfabgkppaaaDoorPx5
namespace Go.Proofs.YtkjmbfabgkppaaaDoor.P
open Go.RowKit Go.Proofs.YtkjmbfabgkppaaaDoorW.PrintWords Go.Proofs.YtkjmbfabgkppaaaDoorW.PrintLast Go.Proofs.YtkjmbfabgkppaaaDoorW.PrintMore
attribute [local go_sem] max2_int min2_int max_two min_two max_three min_three max_four min_four   -- for this text's walks alone
set_option linter.unusedVariables false
set_option linter.unusedSimpArgs false

/-! ### quoinref21_Rename: function 17 -/
def quoinref21_Rename.l0 : Nat → List (S31) → List (S31) → Int → Option ((List (S31)) × Int × Int)
 | 0, _, _, _ => none
 | k + 1, x0, x5, x6 => if x6 < (x0.length : Int) then ((quoinref21_renamed.f k x0 x6).bind fun bt156 => (if bt156.2.2.2.2.2.2.2 = true then (if x5.length < 1599289640401 then (quoinref21_Rename.l0 k x0 (x5 ++ [(⟨bt156.1, bt156.2.1, bt156.2.2.1, bt156.2.2.2.1, bt156.2.2.2.2.1, bt156.2.2.2.2.2.1, bt156.2.2.2.2.2.2.1⟩ : S31)]) (wrap64 (x6 + 1))) else (none)) else (some (([] : List (S31)), x6, 210)))) else (some (x5, 0, 0))
def quoinref21_Rename.f (k : Nat) (l0 : List (S31)) : Option ((List (S31)) × Int × Int) := if (l0.length : Int) > 1024 then (some (([] : List (S31)), 0, 4)) else (quoinref21_Rename.l0 k l0 ([] : List (S31)) 0)
theorem quoinref21_Rename.mono_l : ∀ k, (∀ y0 y1 y2, LeO (quoinref21_Rename.l0 k y0 y1 y2) (quoinref21_Rename.l0 (k + 1) y0 y1 y2))
 | 0 => fun _ _ _ r h => by simp [quoinref21_Rename.l0] at h
 | k + 1 => by
  have ih0 := quoinref21_Rename.mono_l k
  ·
   intro y0 y1 y2
   unfold quoinref21_Rename.l0
   repeat' first
   | (with_reducible exact ih0 _ _ _)
   | (with_reducible exact quoinref21_renamed.mono _ _ _)
   | (with_reducible exact LeO.refl _)
   | (with_reducible exact LeO.none _)
   | (with_reducible refine LeO.ite ?_ ?_)
   | (with_reducible refine LeO.bind ?_ (fun _ => ?_))
   | exact ih0 _ _ _
   | exact quoinref21_renamed.mono _ _ _
   | exact LeO.none _
   | refine LeO.ite ?_ ?_
   | refine LeO.bind ?_ (fun _ => ?_)
theorem quoinref21_Rename.mono : ∀ a0 k, LeO (quoinref21_Rename.f k a0) (quoinref21_Rename.f (k + 1) a0) := by
 intro a0 k
 have ih0 := quoinref21_Rename.mono_l k
 unfold quoinref21_Rename.f
 repeat' first
   | (with_reducible exact ih0 _ _ _)
   | (with_reducible exact quoinref21_renamed.mono _ _ _)
   | (with_reducible exact LeO.refl _)
   | (with_reducible exact LeO.none _)
   | (with_reducible refine LeO.ite ?_ ?_)
   | (with_reducible refine LeO.bind ?_ (fun _ => ?_))
   | exact ih0 _ _ _
   | exact quoinref21_renamed.mono _ _ _
   | exact LeO.none _
   | refine LeO.ite ?_ ?_
   | refine LeO.bind ?_ (fun _ => ?_)
set_option maxHeartbeats 8000000 in
set_option maxRecDepth 100000 in
theorem quoinref21_Rename.calls (k : Nat) (A0 : Option Addr) (c0 : Nat) (l0 : List (S31)) (r1 : List (S31)) (r2 : Int) (r3 : Int) (w : World) (hr0 : Kd.C k31 w A0 l0.length l0) (hc0 : l0.length ≤ c0) (h : quoinref21_Rename.f k l0 = some (r1, r2, r3)) :
  Calls Tryd.prog 17 #[.slice A0 l0.length c0] w fun e w' => ∃ v0_ : Value, e = .returned (.tuple #[v0_, .int .i64 r2, .int .i64 r3]) ∧ Kd.S k31 31 w' w.heap.size (fun _ => True) v0_ r1 ∧ Below w.heap.size w w' := by
 have hu31 := Tryd.underlying31
 have HR0 := Aside0.mk hr0
 have HC0 := Aside0.mk hc0
 clear hr0 hc0
 have HB := Aside0.mk (Below.refl w.heap.size w)
 have H : (if (l0.length : Int) > 1024 then (some (([] : List (S31)), 0, 4)) else (quoinref21_Rename.l0 k l0 ([] : List (S31)) 0)) = some (r1, r2, r3) := h
 clear h
 by_cases c2 : (l0.length : Int) > 1024
 ·
  rw [if_pos c2] at H
  have c2b0 : decide (1024 < (l0.length : Int)) = true := decide_eq_true c2
  have c2b1 : decide (1024 < l0.length) = true := decide_eq_true (by omega)
  clear c2
  simp only [Option.some.injEq, Prod.mk.injEq] at H
  obtain ⟨rfl, rfl, rfl⟩ := H
  go_enter Tryd.func17, Tryd.ntmps17
  go_wp2
  go_ret3
  exact ⟨_, by first | rfl | (simp [errW_none, errW_some] <;> rfl) | (simp [*, errW_none, errW_some] <;> rfl), by first | exact Kd.S_nil _ _ _ _ _ | exact Kd.N_nil _ _ _ _ _ | exact Kd.V_nil _ _ _ _ _ | exact Kd.Q_nil _ _ _ _ _ | exact Kd.R_nil _ _ _ _ _, by repeat (first | (with_reducible first | exact HB.out | apply below_alloc | apply pw_below_drewN | apply below_drew1) | exact HB.out)⟩
 ·
  rw [if_neg c2] at H
  have c2b0 : decide (1024 < (l0.length : Int)) = false := decide_eq_false c2
  have c2b1 : decide (1024 < l0.length) = false := decide_eq_false (by omega)
  clear c2
  have H' := Aside0.mk H
  clear H
  go_enter Tryd.func17, Tryd.ntmps17
  go_wp2
  go_loopg [5, 6] k (fun kq v5 v6 w' => ∃ (x5_1 : List (S31)) (x6_1 : Int), v6 = .int .i64 x6_1 ∧ Aside0 (quoinref21_Rename.l0 kq l0 x5_1 x6_1 = some (r1, r2, r3)) ∧ Aside0 (kq ≤ k) ∧ Aside0 (Kd.S k31 31 w' w.heap.size (fun _ => True) v5 x5_1) ∧ Aside0 (Below w.heap.size w w'))
  case atStart => exact ⟨(([] : List (S31))), (0), (by first | rfl | (simp; done) | (simp [*]; done)), H', ⟨Nat.le_refl _⟩, ⟨by first | exact Kd.S_nil _ _ _ _ _ | exact Kd.N_nil _ _ _ _ _ | exact Kd.V_nil _ _ _ _ _ | exact Kd.Q_nil _ _ _ _ _ | exact Kd.R_nil _ _ _ _ _⟩, ⟨by repeat (first | (with_reducible first | exact HB.out | apply below_alloc | apply pw_below_drewN | apply below_drew1) | exact HB.out)⟩⟩
  case round =>
   clear H'
   try clear c1
   try clear c2
   try clear c2b0
   try clear c2b1
   try clear p2
   obtain ⟨x5_1, x6_1, rfl, HA, HK1, HO_5, HB⟩ := hrel
   cases gk with
   | zero => exact absurd HA.out (by simp [quoinref21_Rename.l0])
   | succ k1 =>
    have H := HA.out
    clear HA
    simp only [quoinref21_Rename.l0] at H
    by_cases c3 : x6_1 < (l0.length : Int)
    ·
     rw [if_pos c3] at H
     have c3b0 : decide (x6_1 < (l0.length : Int)) = true := decide_eq_true c3
     clear c3
     replace H := Option.bind_eq_some_iff.mp H
     obtain ⟨⟨t156, t157, t160, t161, t162, t163, t164, t165⟩, A40, H⟩ := H
     replace H : (if t165 = true then (if x5_1.length < 1599289640401 then (quoinref21_Rename.l0 k1 l0 (x5_1 ++ [(⟨t156, t157, t160, t161, t162, t163, t164⟩ : S31)]) (wrap64 (x6_1 + 1))) else (none)) else (some (([] : List (S31)), x6_1, 210))) = some (r1, r2, r3) := H
     have A4 := Aside0.mk A40
     clear A40
     by_cases c5 : t165 = true
     ·
      subst c5
      have H1 : (if x5_1.length < 1599289640401 then (quoinref21_Rename.l0 k1 l0 (x5_1 ++ [(⟨t156, t157, t160, t161, t162, t163, t164⟩ : S31)]) (wrap64 (x6_1 + 1))) else (none)) = some (r1, r2, r3) := by rw [if_pos rfl] at H; exact H
      clear H
      have H := H1
      clear H1
      by_cases c6 : x5_1.length < 1599289640401
      ·
       rw [if_pos c6] at H
       have LMc6 := Aside0.mk c6
       clear c6
       obtain ⟨y167, hy167⟩ : ∃ y_ : List (S31), y_ = (x5_1 ++ [(⟨t156, t157, t160, t161, t162, t163, t164⟩ : S31)]) := ⟨_, rfl⟩
       replace H : (quoinref21_Rename.l0 k1 l0 y167 (wrap64 (x6_1 + 1))) = some (r1, r2, r3) := by first | (rw [hy167]; with_reducible exact H) | (have H2_ := (Option.bind_some _ _).symm.trans H; rw [hy167]; with_reducible exact H2_) | (have H2_ := (Option.bind_some _ _).symm.trans H; with_reducible exact H2_) | with_reducible exact H | (rw [hy167]; exact H) | exact H
       have Ny167 := Aside0.mk hy167
       clear hy167
       have H' := Aside0.mk H
       clear H
       go_wp2_with (first | ((with_reducible refine gate_callee (f := 25) rfl ?_); refine goesL_ (some 21) rfl rfl Tryd.func25 (by kernel_rfl) rfl #[.slice A0 l0.length c0, .int .i64 x6_1] rfl (by (try simp only [List.map_toArray, List.map_cons, List.map_nil]); first | done | rfl | (simp only [List.length_drop, List.length_take]; rfl)) ?_; (with_reducible refine (quoinref21_renamed.calls k1 _ _ l0 x6_1 t156 t157 t160 t161 t162 t163 t164 true _ ?side1 ?side2 A4.out).mono ?_); (case side1 => repeat (first | exact (Kd.C_below HR0.out HB.out) | (with_reducible refine Kd.C_alloc ?_ _) | (with_reducible refine Kd.C_drewN ?_ _) | (with_reducible refine Kd.C_drew ?_))); (case side2 => exact HC0.out); rintro e w7 ⟨v158, rfl, ho0, hb⟩; refine ⟨_, rfl, ?_⟩; have n0_ := Aside0.mk (Kd.S_elder' (by (with_reducible repeat (first | apply Kd.S_alloc | apply Kd.S_drewN | apply Kd.S_drew)); exact HO_5.out) (Kd.R_base ho0) hb); have n1_ := Aside0.mk (Kd.R_lower ho0 (below_size (by repeat (first | (with_reducible first | exact HB.out | apply below_alloc | apply pw_below_drewN | apply below_drew1) | exact HB.out)))); have n2_ := Aside0.mk (below_step (by repeat (first | (with_reducible first | exact HB.out | apply below_alloc | apply pw_below_drewN | apply below_drew1) | exact HB.out)) hb); clear HO_5; clear HB; have HO_5 := n0_; have HO159 := n1_; have HB := n2_; clear n0_ n1_ n2_; (try clear hb); (try clear hb2); (try clear hk); (try clear hi); (try clear ho0)) | ((with_reducible refine gate_dst (N := 7) rfl ?_); refine box_event ?hg (N := 7) ?hd (cs := #[.int .u8 0, .slice none 0 0, .int .u8 0, .string (⟨#[]⟩ : ByteArray), .string (⟨#[]⟩ : ByteArray), .int .i64 0, .int .i64 0]) (t := 31) ?hr ?_; (case hd => rfl); (case hg => rfl); (case hr => first | (go_simp; done) | (go_simp; rfl)); intro gb166 hg w8 hbox hb; have n0_ := Aside0.mk (Kd.S_below (Kd.S_elderB (by (with_reducible repeat (first | apply Kd.S_alloc | apply Kd.S_drewN | apply Kd.S_drew)); exact HO_5.out) gb166 (Nat.le_of_eq hg.symm)) hb); have n1_ := Aside0.mk (Kd.R_below (by (with_reducible repeat (first | apply Kd.R_alloc | apply Kd.R_drewN | apply Kd.R_drew)); exact HO159.out) hb); have n2_ := Aside0.mk (below_step (by repeat (first | (with_reducible first | exact HB.out | apply below_alloc | apply pw_below_drewN | apply below_drew1) | exact HB.out)) hb); have n3_ := Aside0.mk (hbox); have n4_ := Aside0.mk ((by rw [hg]; exact (below_size (by repeat (first | (with_reducible first | exact HB.out | apply below_alloc | apply pw_below_drewN | apply below_drew1) | exact HB.out))) : w.heap.size ≤ gb166)); have n5_ := Aside0.mk ((by rw [hg]; exact (below_size (by repeat (first | (with_reducible first | exact HB.out | apply below_alloc | apply pw_below_drewN | apply below_drew1) | exact HB.out))) : w.heap.size ≤ gb166)); clear HO_5; clear HO159; clear HB; have HO_5 := n0_; have HO159 := n1_; have HB := n2_; have BK166 := n3_; have GW166 := n4_; have GE166 := n5_; clear n0_ n1_ n2_ n3_ n4_ n5_; clear hb hbox hg; have hcz9_0 : w8.cell? ⟨gb166, 0, none⟩ = some (.int .u8 0) := (blk_cell BK166.out 0).trans rfl; have hcz9_1 : w8.cell? ⟨gb166, 1, none⟩ = some (.slice none 0 0) := (blk_cell BK166.out 1).trans rfl; have hcz9_2 : w8.cell? ⟨gb166, 2, none⟩ = some (.int .u8 0) := (blk_cell BK166.out 2).trans rfl; have hcz9_3 : w8.cell? ⟨gb166, 3, none⟩ = some (.string (⟨#[]⟩ : ByteArray)) := (blk_cell BK166.out 3).trans rfl; have hcz9_4 : w8.cell? ⟨gb166, 4, none⟩ = some (.string (⟨#[]⟩ : ByteArray)) := (blk_cell BK166.out 4).trans rfl; have hcz9_5 : w8.cell? ⟨gb166, 5, none⟩ = some (.int .i64 0) := (blk_cell BK166.out 5).trans rfl; have hcz9_6 : w8.cell? ⟨gb166, 6, none⟩ = some (.int .i64 0) := (blk_cell BK166.out 6).trans rfl; have hfz9_0 := blk_frozen BK166.out 0; have hfz9_1 := blk_frozen BK166.out 1; have hfz9_2 := blk_frozen BK166.out 2; have hfz9_3 := blk_frozen BK166.out 3; have hfz9_4 := blk_frozen BK166.out 4; have hfz9_5 := blk_frozen BK166.out 5; have hfz9_6 := blk_frozen BK166.out 6; obtain ⟨Ao10, co10, eo10⟩ := Kd.R_slice HO159.out; subst eo10) | ((with_reducible refine gate_store (t := 31) (p := 7) rfl ?_); refine store_event (t := 31) (p := 7) (v := ?vo_w11) (w1 := (((((((w8.setCell ⟨gb166, 0, none⟩ (.int .u8 t156)).setCell ⟨gb166, 1, none⟩ (.slice Ao10 t157.length co10)).setCell ⟨gb166, 2, none⟩ (.int .u8 t160)).setCell ⟨gb166, 3, none⟩ (.string t161)).setCell ⟨gb166, 4, none⟩ (.string t162)).setCell ⟨gb166, 5, none⟩ (.int .i64 t163)).setCell ⟨gb166, 6, none⟩ (.int .i64 t164))) ?hg ?ho ?hn ?hr ?_; (case ho => rfl); (case hg => rfl); (case hn => rfl); (case hr => first | (go_simp; done) | (go_simp; rfl)); intro w11 hw; have n0_ : Aside0 (Kd.S k31 31 w11 w.heap.size (fun k_ => some k_ ≠ (.slice Ao10 t157.length co10 : Value).ownBlock ∧ k_ ≠ gb166) u5 x5_1) := ⟨(by rw [hw]; exact (by (with_reducible repeat (first | apply Kd.S_alloc | apply Kd.S_drewN | apply Kd.S_drew)); exact Kd.S_mono (Kd.S_far (p := ⟨gb166, 6, none⟩) (Kd.S_far (p := ⟨gb166, 5, none⟩) (Kd.S_far (p := ⟨gb166, 4, none⟩) (Kd.S_far (p := ⟨gb166, 3, none⟩) (Kd.S_far (p := ⟨gb166, 2, none⟩) (Kd.S_far (p := ⟨gb166, 1, none⟩) (Kd.S_far (p := ⟨gb166, 0, none⟩) (Kd.S_mono HO_5.out (fun k_ hk => (⟨hk, hk.2⟩ : _ ∧ k_ ≠ gb166))) (fun _ hk => hk.2) (.int .u8 t156)) (fun _ hk => hk.2) (.slice Ao10 t157.length co10)) (fun _ hk => hk.2) (.int .u8 t160)) (fun _ hk => hk.2) (.string t161)) (fun _ hk => hk.2) (.string t162)) (fun _ hk => hk.2) (.int .i64 t163)) (fun _ hk => hk.2) (.int .i64 t164)) (fun _ hk => ⟨hk.1.1.2, hk.1.2⟩)))⟩; have n1_ : Aside0 (Kd.R (Kd.int .u8) 5 w11 w.heap.size (fun _ => True) (.slice Ao10 t157.length co10) t157) := ⟨(by rw [hw]; exact (by (with_reducible repeat (first | apply Kd.R_alloc | apply Kd.R_drewN | apply Kd.R_drew)); exact Kd.R_mono (Kd.R_far (p := ⟨gb166, 6, none⟩) (Kd.R_far (p := ⟨gb166, 5, none⟩) (Kd.R_far (p := ⟨gb166, 4, none⟩) (Kd.R_far (p := ⟨gb166, 3, none⟩) (Kd.R_far (p := ⟨gb166, 2, none⟩) (Kd.R_far (p := ⟨gb166, 1, none⟩) (Kd.R_far (p := ⟨gb166, 0, none⟩) (Kd.R_types HO159.out BK166.out (by decide)) (fun _ hk => hk.2) (.int .u8 t156)) (fun _ hk => hk.2) (.slice Ao10 t157.length co10)) (fun _ hk => hk.2) (.int .u8 t160)) (fun _ hk => hk.2) (.string t161)) (fun _ hk => hk.2) (.string t162)) (fun _ hk => hk.2) (.int .i64 t163)) (fun _ hk => hk.2) (.int .i64 t164)) (fun _ hk => trivial)))⟩; have n2_ : Aside0 (w11.heap[gb166]? = some (.cells #[.int .u8 t156, .slice Ao10 t157.length co10, .int .u8 t160, .string t161, .string t162, .int .i64 t163, .int .i64 t164] 31 (0, 0))) := ⟨(by rw [hw]; exact (by (with_reducible repeat (first | refine blk_drewN ?_ _ | refine blk_drew ?_ | refine blk_alloc ?_ _)); refine blk_put (cs := #[.int .u8 t156, .slice Ao10 t157.length co10, .int .u8 t160, .string t161, .string t162, .int .i64 t163, .int .i64 0]) ?_ 6 _ rfl; (with_reducible repeat (first | refine blk_drewN ?_ _ | refine blk_drew ?_ | refine blk_alloc ?_ _)); refine blk_put (cs := #[.int .u8 t156, .slice Ao10 t157.length co10, .int .u8 t160, .string t161, .string t162, .int .i64 0, .int .i64 0]) ?_ 5 _ rfl; (with_reducible repeat (first | refine blk_drewN ?_ _ | refine blk_drew ?_ | refine blk_alloc ?_ _)); refine blk_put (cs := #[.int .u8 t156, .slice Ao10 t157.length co10, .int .u8 t160, .string t161, .string (⟨#[]⟩ : ByteArray), .int .i64 0, .int .i64 0]) ?_ 4 _ rfl; (with_reducible repeat (first | refine blk_drewN ?_ _ | refine blk_drew ?_ | refine blk_alloc ?_ _)); refine blk_put (cs := #[.int .u8 t156, .slice Ao10 t157.length co10, .int .u8 t160, .string (⟨#[]⟩ : ByteArray), .string (⟨#[]⟩ : ByteArray), .int .i64 0, .int .i64 0]) ?_ 3 _ rfl; (with_reducible repeat (first | refine blk_drewN ?_ _ | refine blk_drew ?_ | refine blk_alloc ?_ _)); refine blk_put (cs := #[.int .u8 t156, .slice Ao10 t157.length co10, .int .u8 0, .string (⟨#[]⟩ : ByteArray), .string (⟨#[]⟩ : ByteArray), .int .i64 0, .int .i64 0]) ?_ 2 _ rfl; (with_reducible repeat (first | refine blk_drewN ?_ _ | refine blk_drew ?_ | refine blk_alloc ?_ _)); refine blk_put (cs := #[.int .u8 t156, .slice none 0 0, .int .u8 0, .string (⟨#[]⟩ : ByteArray), .string (⟨#[]⟩ : ByteArray), .int .i64 0, .int .i64 0]) ?_ 1 _ rfl; (with_reducible repeat (first | refine blk_drewN ?_ _ | refine blk_drew ?_ | refine blk_alloc ?_ _)); refine blk_put (cs := #[.int .u8 0, .slice none 0 0, .int .u8 0, .string (⟨#[]⟩ : ByteArray), .string (⟨#[]⟩ : ByteArray), .int .i64 0, .int .i64 0]) ?_ 0 _ rfl; (with_reducible repeat (first | refine blk_drewN ?_ _ | refine blk_drew ?_ | refine blk_alloc ?_ _)); exact BK166.out))⟩; have n3_ : Aside0 (Below w.heap.size w w11) := ⟨(by rw [hw]; exact (by repeat (first | (with_reducible first | exact HB.out | apply below_alloc | apply pw_below_drewN | apply below_drew1 | refine below_set ?_ GE166.out) | exact HB.out)))⟩; clear hw; clear HO_5; clear HO159; clear BK166; clear HB; have HO_5 := n0_; have HO159 := n1_; have BK166 := n2_; have HB := n3_; clear n0_ n1_ n2_ n3_; have hcz12_0 : w11.cell? ⟨gb166, 0, none⟩ = some (.int .u8 t156) := (blk_cell BK166.out 0).trans rfl; have hcz12_1 : w11.cell? ⟨gb166, 1, none⟩ = some (.slice Ao10 t157.length co10) := (blk_cell BK166.out 1).trans rfl; have hcz12_2 : w11.cell? ⟨gb166, 2, none⟩ = some (.int .u8 t160) := (blk_cell BK166.out 2).trans rfl; have hcz12_3 : w11.cell? ⟨gb166, 3, none⟩ = some (.string t161) := (blk_cell BK166.out 3).trans rfl; have hcz12_4 : w11.cell? ⟨gb166, 4, none⟩ = some (.string t162) := (blk_cell BK166.out 4).trans rfl; have hcz12_5 : w11.cell? ⟨gb166, 5, none⟩ = some (.int .i64 t163) := (blk_cell BK166.out 5).trans rfl; have hcz12_6 : w11.cell? ⟨gb166, 6, none⟩ = some (.int .i64 t164) := (blk_cell BK166.out 6).trans rfl; have hfz12_0 := blk_frozen BK166.out 0; have hfz12_1 := blk_frozen BK166.out 1; have hfz12_2 := blk_frozen BK166.out 2; have hfz12_3 := blk_frozen BK166.out 3; have hfz12_4 := blk_frozen BK166.out 4; have hfz12_5 := blk_frozen BK166.out 5; have hfz12_6 := blk_frozen BK166.out 6) | ((with_reducible refine gate_builtin (b := .append) (xs := #[.tmp 27, .tmp 29]) rfl ?_); at_builtin; refine Kd.S_append k31 (w0 := w) w.heap.size rfl (.tmp 27) (.tmp 29) 22 31 (.agg #[(.int .u8 0), (.slice none 0 0), (.int .u8 0), (.string ⟨#[]⟩), (.string ⟨#[]⟩), (.int .i64 0), (.int .i64 0)]) 88 rfl Tryd.underlying22 info31 rfl (by decide) (by omega) u5 x5_1 (⟨t156, t157, t160, t161, t162, t163, t164⟩ : S31) [.int .u8 t156, .slice Ao10 t157.length co10, .int .u8 t160, .string t161, .string t162, .int .i64 t163, .int .i64 t164] (fun k_ => k_ ≠ gb166) (fun k_ => some k_ = (.slice Ao10 t157.length co10 : Value).ownBlock) rfl rfl ?aP (fun k_ hk_ => ((Kd.R_mono (ok' := fun k_ => ((fun k_ => k_ ≠ gb166)) k_ ∧ some k_ ≠ (u5 : Value).ownBlock) (Kd.R_types (Kd.R_apart' (HO159.out) (Kd.S_typed HO_5.out) (by decide)) BK166.out (by decide)) (fun k_ hk => ⟨hk.2, hk.1.2⟩))).1 k_ hk_.symm) ?aF ?aO ?aB ?aS ?aL ?_; (case aP => exact k31_mkM _ _ _ (⟨t156, t157, t160, t161, t162, t163, t164⟩ : S31) (Kd.R_mono (Kd.R_tight rfl (Kd.R_mono (ok' := fun k_ => ((fun k_ => k_ ≠ gb166)) k_ ∧ some k_ ≠ (u5 : Value).ownBlock) (Kd.R_types (Kd.R_apart' (HO159.out) (Kd.S_typed HO_5.out) (by decide)) BK166.out (by decide)) (fun k_ hk => ⟨hk.2, hk.1.2⟩))) (fun _ h_ => h_))); (case aB => exact (by repeat (first | (with_reducible first | exact HB.out | apply below_alloc | apply pw_below_drewN | apply below_drew1 | refine below_set ?_ GE166.out) | exact HB.out))); (case aF => exact (fun k_ hk => Kd.freshB (g := gb166) (o := .cells #[.int .u8 t156, .slice Ao10 t157.length co10, .int .u8 t160, .string t161, .string t162, .int .i64 t163, .int .i64 t164] 31 (0, 0)) (by (with_reducible repeat (first | refine blk_drewN ?_ _ | refine blk_drew ?_ | refine blk_alloc ?_ _)); exact BK166.out) k_ hk)); (case aO => exact (by (with_reducible repeat (first | apply Kd.S_alloc | apply Kd.S_drewN | apply Kd.S_drew)); exact Kd.S_mono HO_5.out (fun k_ hk => ⟨hk.2, fun e_ => hk.1 e_⟩))); (case aS => exact (below_size (by repeat (first | (with_reducible first | exact HB.out | apply below_alloc | apply pw_below_drewN | apply below_drew1 | refine below_set ?_ GE166.out) | exact HB.out)))); (case aL => have := LMc6.out; omega); intro v168 w13 ho hb hg hat; rw [← Ny167.out] at ho; have n0_ := Aside0.mk (blk_grown (g := gb166) (o := .cells #[.int .u8 t156, .slice Ao10 t157.length co10, .int .u8 t160, .string t161, .string t162, .int .i64 t163, .int .i64 t164] 31 (0, 0)) (by (with_reducible repeat (first | refine blk_drewN ?_ _ | refine blk_drew ?_ | refine blk_alloc ?_ _)); exact BK166.out) hg (Kd.S_away HO_5.out (fun _ hk => hk.2))); have n1_ := Aside0.mk (hb); have n2_ := Aside0.mk (ho); clear BK166; clear HB; clear HO_5; clear HO159; have BK166 := n0_; have HB := n1_; have HO169 := n2_; clear n0_ n1_ n2_; clear ho hb hg hat))
       go_roundg k1
       case measure => have := HK1.out; omega
       case rel => exact ⟨(y167), (wrap64 (x6_1 + 1)), (by first | rfl | (simp; done) | (simp [*]; done)), H', ⟨by have := HK1.out; omega⟩, ⟨by (with_reducible repeat (first | apply Kd.S_alloc | apply Kd.S_drewN | apply Kd.S_drew)); exact Kd.S_mono HO169.out (fun _ hk => trivial)⟩, ⟨by repeat (first | (with_reducible first | exact HB.out | apply below_alloc | apply pw_below_drewN | apply below_drew1 | refine below_set ?_ GE166.out) | exact HB.out)⟩⟩
      ·
       rw [if_neg c6] at H
       exact absurd H (by simp)
     ·
      replace c5 := Bool.eq_false_iff.mpr c5
      (try subst c5)
      have H1 : (some (([] : List (S31)), x6_1, 210)) = some (r1, r2, r3) := by first | (rw [if_neg (show ¬ (false = true) by decide)] at H; exact H) | exact absurd c5 (by decide)
      clear H
      have H := H1
      clear H1
      simp only [Option.some.injEq, Prod.mk.injEq] at H
      obtain ⟨rfl, rfl, rfl⟩ := H
      go_wp2_with (first | ((with_reducible refine gate_callee (f := 25) rfl ?_); refine goesL_ (some 21) rfl rfl Tryd.func25 (by kernel_rfl) rfl #[.slice A0 l0.length c0, .int .i64 x6_1] rfl (by (try simp only [List.map_toArray, List.map_cons, List.map_nil]); first | done | rfl | (simp only [List.length_drop, List.length_take]; rfl)) ?_; (with_reducible refine (quoinref21_renamed.calls k1 _ _ l0 x6_1 t156 t157 t160 t161 t162 t163 t164 false _ ?side1 ?side2 A4.out).mono ?_); (case side1 => repeat (first | exact (Kd.C_below HR0.out HB.out) | (with_reducible refine Kd.C_alloc ?_ _) | (with_reducible refine Kd.C_drewN ?_ _) | (with_reducible refine Kd.C_drew ?_))); (case side2 => exact HC0.out); rintro e w14 ⟨v158, rfl, ho0, hb⟩; refine ⟨_, rfl, ?_⟩; have n0_ := Aside0.mk (Kd.S_elder' (by (with_reducible repeat (first | apply Kd.S_alloc | apply Kd.S_drewN | apply Kd.S_drew)); exact HO_5.out) (Kd.R_base ho0) hb); have n1_ := Aside0.mk (Kd.R_lower ho0 (below_size (by repeat (first | (with_reducible first | exact HB.out | apply below_alloc | apply pw_below_drewN | apply below_drew1) | exact HB.out)))); have n2_ := Aside0.mk (below_step (by repeat (first | (with_reducible first | exact HB.out | apply below_alloc | apply pw_below_drewN | apply below_drew1) | exact HB.out)) hb); clear HO_5; clear HB; have HO_5 := n0_; have HO159 := n1_; have HB := n2_; clear n0_ n1_ n2_; (try clear hb); (try clear hb2); (try clear hk); (try clear hi); (try clear ho0)) | ((with_reducible refine gate_dst (N := 7) rfl ?_); refine box_event ?hg (N := 7) ?hd (cs := #[.int .u8 0, .slice none 0 0, .int .u8 0, .string (⟨#[]⟩ : ByteArray), .string (⟨#[]⟩ : ByteArray), .int .i64 0, .int .i64 0]) (t := 31) ?hr ?_; (case hd => rfl); (case hg => rfl); (case hr => first | (go_simp; done) | (go_simp; rfl)); intro gb166 hg w15 hbox hb; have n0_ := Aside0.mk (Kd.S_below (Kd.S_elderB (by (with_reducible repeat (first | apply Kd.S_alloc | apply Kd.S_drewN | apply Kd.S_drew)); exact HO_5.out) gb166 (Nat.le_of_eq hg.symm)) hb); have n1_ := Aside0.mk (Kd.R_below (by (with_reducible repeat (first | apply Kd.R_alloc | apply Kd.R_drewN | apply Kd.R_drew)); exact HO159.out) hb); have n2_ := Aside0.mk (below_step (by repeat (first | (with_reducible first | exact HB.out | apply below_alloc | apply pw_below_drewN | apply below_drew1) | exact HB.out)) hb); have n3_ := Aside0.mk (hbox); have n4_ := Aside0.mk ((by rw [hg]; exact (below_size (by repeat (first | (with_reducible first | exact HB.out | apply below_alloc | apply pw_below_drewN | apply below_drew1) | exact HB.out))) : w.heap.size ≤ gb166)); have n5_ := Aside0.mk ((by rw [hg]; exact (below_size (by repeat (first | (with_reducible first | exact HB.out | apply below_alloc | apply pw_below_drewN | apply below_drew1) | exact HB.out))) : w.heap.size ≤ gb166)); clear HO_5; clear HO159; clear HB; have HO_5 := n0_; have HO159 := n1_; have HB := n2_; have BK166 := n3_; have GW166 := n4_; have GE166 := n5_; clear n0_ n1_ n2_ n3_ n4_ n5_; clear hb hbox hg; have hcz16_0 : w15.cell? ⟨gb166, 0, none⟩ = some (.int .u8 0) := (blk_cell BK166.out 0).trans rfl; have hcz16_1 : w15.cell? ⟨gb166, 1, none⟩ = some (.slice none 0 0) := (blk_cell BK166.out 1).trans rfl; have hcz16_2 : w15.cell? ⟨gb166, 2, none⟩ = some (.int .u8 0) := (blk_cell BK166.out 2).trans rfl; have hcz16_3 : w15.cell? ⟨gb166, 3, none⟩ = some (.string (⟨#[]⟩ : ByteArray)) := (blk_cell BK166.out 3).trans rfl; have hcz16_4 : w15.cell? ⟨gb166, 4, none⟩ = some (.string (⟨#[]⟩ : ByteArray)) := (blk_cell BK166.out 4).trans rfl; have hcz16_5 : w15.cell? ⟨gb166, 5, none⟩ = some (.int .i64 0) := (blk_cell BK166.out 5).trans rfl; have hcz16_6 : w15.cell? ⟨gb166, 6, none⟩ = some (.int .i64 0) := (blk_cell BK166.out 6).trans rfl; have hfz16_0 := blk_frozen BK166.out 0; have hfz16_1 := blk_frozen BK166.out 1; have hfz16_2 := blk_frozen BK166.out 2; have hfz16_3 := blk_frozen BK166.out 3; have hfz16_4 := blk_frozen BK166.out 4; have hfz16_5 := blk_frozen BK166.out 5; have hfz16_6 := blk_frozen BK166.out 6; obtain ⟨Ao17, co17, eo17⟩ := Kd.R_slice HO159.out; subst eo17))
      go_ret3
      exact ⟨_, by first | rfl | (simp [errW_none, errW_some] <;> rfl) | (simp [*, errW_none, errW_some] <;> rfl), by first | exact Kd.S_nil _ _ _ _ _ | exact Kd.N_nil _ _ _ _ _ | exact Kd.V_nil _ _ _ _ _ | exact Kd.Q_nil _ _ _ _ _ | exact Kd.R_nil _ _ _ _ _, by repeat (first | (with_reducible first | exact HB.out | apply below_alloc | apply pw_below_drewN | apply below_drew1 | refine below_set ?_ GE166.out) | exact HB.out)⟩
    ·
     rw [if_neg c3] at H
     have c3b0 : decide (x6_1 < (l0.length : Int)) = false := decide_eq_false c3
     clear c3
     simp only [Option.some.injEq, Prod.mk.injEq] at H
     obtain ⟨rfl, rfl, rfl⟩ := H
     go_wp2
     go_ret3
     exact ⟨_, by first | rfl | (simp [errW_none, errW_some] <;> rfl) | (simp [*, errW_none, errW_some] <;> rfl), by (with_reducible repeat (first | apply Kd.S_alloc | apply Kd.S_drewN | apply Kd.S_drew)); exact HO_5.out, by repeat (first | (with_reducible first | exact HB.out | apply below_alloc | apply pw_below_drewN | apply below_drew1) | exact HB.out)⟩

/-! ### quoinlaw21_LabelsRename: function 6 -/
namespace Lr
/-- An item's words, told of where they lie; what is stored into them changes no other row's length. -/
theorem words_put {W : World} {base gS n cap : Nat} {xs : List S31} (h : Kd.S k31 31 W base (fun _ => True) (.slice (some ⟨gS, 0, none⟩) n cap) xs) (i : Nat) (hi : i < n) :
    ∃ A c, W.cell? ⟨gS, i * 7 + 1, none⟩ = some (.slice A (xs.getD i z31).f1.length c) ∧ (xs.getD i z31).f1.length ≤ c ∧
      ∀ j : Nat, j < (xs.getD i z31).f1.length → ∃ b, A = some ⟨b, 0, none⟩ ∧ base ≤ b ∧ W.cell? ⟨b, j, none⟩ = some (.int .u8 (rd (xs.getD i z31).f1 (j : Int))) ∧ W.frozen? ⟨b, j, none⟩ = false ∧
        ∀ x : Int, ∃ ys : List S31, ys.length = xs.length ∧ (∀ q, (ys.getD q z31).f1.length = (xs.getD q z31).f1.length) ∧ Kd.S k31 31 (W.setCell ⟨b, j, none⟩ (.int .u8 x)) base (fun _ => True) (.slice (some ⟨gS, 0, none⟩) n cap) ys := by
  obtain ⟨oki, c, hcl, hM, hcc, hfr, hoki, hH⟩ := Kd.S_elem h z31 (i : Int) (Int.natCast_nonneg _) (by omega)
  have hlen := (Kd.S_reads' h).1
  simp only [Int.toNat_natCast] at hM hcc hfr
  obtain ⟨dv, rfl, hR⟩ := k31_openM hM
  have hcc : ∀ (j : Nat) u, _ → W.cell? ⟨gS, i * 7 + j, none⟩ = some u := hcc
  obtain ⟨A, c, rfl, hc, _⟩ := Kd.R_reads hR
  refine ⟨A, c, hcc 1 _ rfl, hc, fun j hj => ?_⟩
  obtain ⟨b, c2, e, hb, hlt, _⟩ := Kd.R_form hR (by omega)
  obtain ⟨rfl, rfl⟩ : A = some ⟨b, 0, none⟩ ∧ c = c2 := by injection e with e1 e2 e3; exact ⟨e1, e3⟩
  obtain ⟨h1, h2⟩ := Kd.R_celln (0 : Int) hR (j : Int) (Int.natCast_nonneg _) (by omega)
  simp only [Int.toNat_natCast] at h1 h2
  refine ⟨b, rfl, hb, h1, h2, fun x => ?_⟩
  obtain ⟨h3, hg⟩ := Kd.R_putg hR (j : Int) x
  simp only [Int.toNat_natCast] at h3 hg
  have hw := Kd.H_grown (Kd.H_widen hH) hg (fun k hk => .inl (hR.1 k hk))
  have := Kd.H_back hw (x' := ⟨(xs.getD i z31).f0, (xs.getD i z31).f1.set j x, (xs.getD i z31).f2, (xs.getD i z31).f3, (xs.getD i z31).f4, (xs.getD i z31).f5, (xs.getD i z31).f6⟩) (k31_mkM _ _ _ ⟨_, _, _, _, _, _, _⟩ (show (Kd.int IntKind.u8).R 5 _ base oki _ ((xs.getD i z31).f1.set j x) from h3)) (fun k hk => .inl hk)
  refine ⟨_, ?_, ?_, this⟩
  · simp
  · intro q
    simp only [Int.toNat_natCast]
    by_cases hq : q = i
    · subst hq
      rw [List.getD_eq_getElem?_getD, List.getElem?_set_self (by omega)]
      simp
    · simp [List.getD_eq_getElem?_getD, List.getElem?_set_ne (fun e => hq e.symm : i ≠ q)]
end Lr
set_option maxHeartbeats 40000000 in
set_option maxRecDepth 100000 in
theorem rename_great (k : Nat) (A0 : Option Addr) (c0 : Nat) (l0 : List (S31)) (a1 : ByteArray) (a2 : Int) (w : World) (hr0 : Kd.C k31 w A0 l0.length l0) (hc0 : l0.length ≤ c0) (hT : Lib.TabIs Tryd.prog w "internal/strconv.uint64pow10" .u64 Lib.pow10Tab) (gr : Bool) (hq : gr = true) (hg : quoinref20_Great.f k l0 = some gr) :
    Calls Tryd.prog 6 #[.slice A0 l0.length c0, .string a1, .int .i64 a2] w fun e w' => e = .returned (.bool true) ∧ Below w.heap.size w w' := by
  obtain rfl : gr = true := hq
  have HR0 := Aside0.mk hr0
  have HC0 := Aside0.mk hc0
  have HT := Aside0.mk hT
  have HG := Aside0.mk hg
  clear hr0 hc0 hT hg
  have HB := Aside0.mk (Below.refl w.heap.size w)
  go_enter Tryd.func6, Tryd.ntmps6
  go_wp2_with (first | (go_at_call 9; (with_reducible refine (quoinref20_Great.calls k _ _ l0 true _ (Kd.C_below HR0.out HB.out) HC0.out HG.out).mono ?_); rintro e_ w2 ⟨rfl, hb⟩; have HBZ := Aside0.mk (below_step HB.out hb); clear HB; have HB := HBZ; clear HBZ; clear hb))
  go_ret
  exact ⟨rfl, HB.out⟩
set_option maxHeartbeats 40000000 in
set_option maxRecDepth 100000 in
theorem rename_long (k : Nat) (A0 : Option Addr) (c0 : Nat) (l0 : List (S31)) (a1 : ByteArray) (a2 : Int) (w : World) (hr0 : Kd.C k31 w A0 l0.length l0) (hc0 : l0.length ≤ c0) (hT : Lib.TabIs Tryd.prog w "internal/strconv.uint64pow10" .u64 Lib.pow10Tab) (hg : quoinref20_Great.f k l0 = some false) (h1 : (1000 : Int) < (a1.size : Int)) :
    Calls Tryd.prog 6 #[.slice A0 l0.length c0, .string a1, .int .i64 a2] w fun e w' => e = .returned (.bool true) ∧ Below w.heap.size w w' := by
  have g1 : decide ((1000 : Int) < (a1.size : Int)) = true := decide_eq_true h1
  have g2 : decide (1000 < a1.size) = true := decide_eq_true (by omega)
  clear h1
  have HR0 := Aside0.mk hr0
  have HC0 := Aside0.mk hc0
  have HT := Aside0.mk hT
  have HG := Aside0.mk hg
  clear hr0 hc0 hT hg
  have HB := Aside0.mk (Below.refl w.heap.size w)
  go_enter Tryd.func6, Tryd.ntmps6
  go_wp2_with (first | (go_at_call 9; (with_reducible refine (quoinref20_Great.calls k _ _ l0 false _ (Kd.C_below HR0.out HB.out) HC0.out HG.out).mono ?_); rintro e_ w2 ⟨rfl, hb⟩; have HBZ := Aside0.mk (below_step HB.out hb); clear HB; have HB := HBZ; clear HBZ; clear hb))
  go_ret
  exact ⟨rfl, HB.out⟩
set_option maxHeartbeats 40000000 in
set_option maxRecDepth 100000 in
theorem rename_go (k : Nat) (A0 : Option Addr) (c0 : Nat) (l0 : List (S31)) (a1 : ByteArray) (a2 : Int) (w : World) (hr0 : Kd.C k31 w A0 l0.length l0) (hc0 : l0.length ≤ c0) (hT : Lib.TabIs Tryd.prog w "internal/strconv.uint64pow10" .u64 Lib.pow10Tab) (hg : quoinref20_Great.f k l0 = some false) (h1 : ¬ (1000 : Int) < (a1.size : Int)) (tw : List S31) (htw : quoinref21_Twin.f k l0 = some tw) (aa : List S31) (at_ e : Int) (hm : labels_Rename.f tw = some (aa, at_, e)) (bb : List S31) (hbb : quoinref21_Rename.f k l0 = some (bb, at_, e)) (s : ByteArray) (g : Int) (hn : labels_Name.f a1 a2 = some (s, g)) (hn2 : quoinref21_Name.f k a1 a2 = some (s, g)) (hs : quoinref21_Same.f k aa bb = some true) (hs2 : quoinref21_Same.f k tw l0 = some true) (hla : aa.length ≤ 2000) (hwa : ∀ q, (aa.getD q z31).f1.length ≤ 1000000) :
    Calls Tryd.prog 6 #[.slice A0 l0.length c0, .string a1, .int .i64 a2] w fun e w' => e = .returned (.bool true) ∧ Below w.heap.size w w' := by
  have HR0 := Aside0.mk hr0
  have HC0 := Aside0.mk hc0
  have HT := Aside0.mk hT
  have HG := Aside0.mk hg
  clear hr0 hc0 hT hg
  have HB := Aside0.mk (Below.refl w.heap.size w)
  have g1 : decide ((1000 : Int) < (a1.size : Int)) = false := decide_eq_false h1
  have g2 : decide (1000 < a1.size) = false := decide_eq_false (by omega)
  clear h1
  have HTW := Aside0.mk htw
  have HM := Aside0.mk hm
  have HBB := Aside0.mk hbb
  have HN := Aside0.mk hn
  have HN2 := Aside0.mk hn2
  have HS := Aside0.mk hs
  have HS2 := Aside0.mk hs2
  have HLA := Aside0.mk hla
  have HWA := Aside0.mk hwa
  clear htw hm hbb hn hn2 hs hs2 hla hwa
  go_enter Tryd.func6, Tryd.ntmps6
  go_upto_region 10 with (first | (go_at_call 9; (with_reducible refine (quoinref20_Great.calls k _ _ l0 false _ (Kd.C_below HR0.out HB.out) HC0.out HG.out).mono ?_); rintro e_ w2 ⟨rfl, hb⟩; have HBZ := Aside0.mk (below_step HB.out hb); clear HB; have HB := HBZ; clear HBZ; clear hb) | (go_at_call 16; (with_reducible refine (quoinref21_Twin.calls k _ _ l0 tw _ (Kd.C_below HR0.out HB.out) HC0.out HTW.out).mono ?_); rintro e_ w3 ⟨vt, rfl, ho, hb⟩; have HBZ := Aside0.mk (below_step HB.out hb); clear HB; have HB := HBZ; clear HBZ; clear hb; obtain ⟨At, ct, et⟩ := Kd.S_slice ho; subst et; have HOT := Aside0.mk (Kd.S_reads' ho); have HB2 := Aside0.mk (Below.refl w3.heap.size w3); have HSZ := Aside0.mk (below_size HB.out); clear ho) | (go_at_call 10; have hT1 := Lib.tabBelow_of_tabIs HT.out _ HB.out; (with_reducible refine (labels_Rename.calls _ _ tw aa at_ e _ (Kd.C_below HOT.out.2.2 HB2.out) HOT.out.2.1 hT1 HM.out).mono ?_); clear hT1; rintro e_ w4 ⟨va, rfl, ho, hb⟩; replace ho := Kd.S_lower ho (below_size HB2.out); have HBZ := Aside0.mk (below_step HB.out hb); clear HB; have HB := HBZ; clear HBZ; have HB2Z := Aside0.mk (below_step HB2.out hb); clear HB2; have HB2 := HB2Z; clear HB2Z; clear hb; obtain ⟨Aa, ca, ea⟩ := Kd.S_slice ho; subst ea; have HOA := Aside0.mk ho; have HB3 := Aside0.mk (Below.refl w4.heap.size w4); clear ho) | (go_at_call 17; (with_reducible refine (quoinref21_Rename.calls k _ _ l0 bb at_ e _ (Kd.C_below HR0.out HB.out) HC0.out HBB.out).mono ?_); rintro e_ w5 ⟨vb, rfl, ho, hb⟩; have HBZ := Aside0.mk (below_step HB.out hb); clear HB; have HB := HBZ; clear HBZ; have HB2Z := Aside0.mk (below_step HB2.out hb); clear HB2; have HB2 := HB2Z; clear HB2Z; have HB3Z := Aside0.mk (below_step HB3.out hb); clear HB3; have HB3 := HB3Z; clear HB3Z; clear hb; obtain ⟨Ab, cb, eb⟩ := Kd.S_slice ho; subst eb; have HOB := Aside0.mk (Kd.S_reads' ho); have HB4 := Aside0.mk (Below.refl w5.heap.size w5); clear ho) | (go_at_call 15; have hT1 := Lib.tabBelow_of_tabIs HT.out _ HB.out; (with_reducible refine (labels_Name.calls a1 a2 s g _ hT1 HN.out).mono ?_); clear hT1; rintro e_ w6 ⟨rfl, hb⟩; have HBZ := Aside0.mk (below_step HB.out hb); clear HB; have HB := HBZ; clear HBZ; have HB2Z := Aside0.mk (below_step HB2.out hb); clear HB2; have HB2 := HB2Z; clear HB2Z; have HB3Z := Aside0.mk (below_step HB3.out hb); clear HB3; have HB3 := HB3Z; clear HB3Z; have HB4Z := Aside0.mk (below_step HB4.out hb); clear HB4; have HB4 := HB4Z; clear HB4Z; clear hb) | (go_at_call 18; (with_reducible refine (quoinref21_Name.calls k a1 a2 s g _ HN2.out).mono ?_); rintro e_ w7 ⟨rfl, ⟨nd, rfl⟩⟩; have hb := pw_below_drewN (Below.refl w6.heap.size w6) nd; have HBZ := Aside0.mk (below_step HB.out hb); clear HB; have HB := HBZ; clear HBZ; have HB2Z := Aside0.mk (below_step HB2.out hb); clear HB2; have HB2 := HB2Z; clear HB2Z; have HB3Z := Aside0.mk (below_step HB3.out hb); clear HB3; have HB3 := HB3Z; clear HB3Z; have HB4Z := Aside0.mk (below_step HB4.out hb); clear HB4; have HB4 := HB4Z; clear HB4Z; clear hb) | (go_at_call 11; (with_reducible refine (quoinref21_Same.calls k _ _ aa _ _ bb true _ (Kd.C_below (Kd.S_reads' HOA.out).2.2 HB3.out) (Kd.S_reads' HOA.out).2.1 (Kd.C_below HOB.out.2.2 HB4.out) HOB.out.2.1 HS.out).mono ?_); rintro e_ w8 ⟨rfl, hb⟩; have HBZ := Aside0.mk (below_step HB.out hb); clear HB; have HB := HBZ; clear HBZ; have HB2Z := Aside0.mk (below_step HB2.out hb); clear HB2; have HB2 := HB2Z; clear HB2Z; have HB3Z := Aside0.mk (below_step HB3.out hb); clear HB3; have HB3 := HB3Z; clear HB3Z; clear hb))
  have HROW := Aside0.mk (Kd.S_below HOA.out HB3.out)
  clear HOA HB3 HB4 HOB HN HN2 HM HBB HS HTW g1 g2
  go_wp2
  go_loopg [18] (aa.length + 1) (fun kq v18 w' => ∃ (i : Nat) (xs : List S31), v18 = .int .i64 (i : Int) ∧ Aside0 (i + kq = aa.length + 1) ∧ Aside0 (xs.length = aa.length ∧ ∀ q, (xs.getD q z31).f1.length = (aa.getD q z31).f1.length) ∧ Aside0 (Kd.S k31 31 w' w3.heap.size (fun _ => True) (.slice Aa aa.length ca) xs) ∧ Aside0 (Below w.heap.size w w') ∧ Aside0 (Below w3.heap.size w3 w'))
  case atStart => exact ⟨0, aa, rfl, ⟨by omega⟩, ⟨rfl, fun _ => rfl⟩, HROW, HB, HB2⟩
  case round =>
    clear HB HB2 HROW
    obtain ⟨i, xs, rfl, HK, HL, HROW, HB, HB2⟩ := hrel
    have hk := HK.out
    by_cases hi : i < aa.length
    · have c4b0 : decide ((i : Int) < (aa.length : Int)) = true := decide_eq_true (by omega)
      obtain ⟨gp, hgp⟩ : ∃ n, n + 1 = gk := ⟨gk - 1, by omega⟩
      subst hgp
      obtain ⟨gS, cS, eS, _, _, _⟩ := Kd.S_form HROW.out (by rw [HL.out.1]; omega)
      obtain rfl : Aa = some ⟨gS, 0, none⟩ := by injection eS
      clear eS
      obtain ⟨x, hx⟩ : ∃ x : Int, x = (i : Int) := ⟨_, rfl⟩
      obtain ⟨m, hm⟩ : ∃ m : Nat, m = (aa.getD i z31).f1.length := ⟨_, rfl⟩
      have hmm : m ≤ 1000000 := by rw [hm]; exact HWA.out i
      have c5b0 : decide (0 ≤ x) = true := decide_eq_true (by omega)
      have c6b0 : decide (x < (aa.length : Int)) = true := decide_eq_true (by omega)
      have p0 : (0 ≤ x) = True := eq_true (by omega)
      have p1 : (x < (aa.length : Int)) = True := eq_true (by omega)
      have hwr : wrap64 (x + 1) = ((i + 1 : Nat) : Int) := by have := HLA.out; unfold wrap64; omega
      have HXI := Aside0.mk hx
      have HMI := Aside0.mk hm
      have HMM := Aside0.mk hmm
      have HWR := Aside0.mk hwr
      have HK2 := Aside0.mk (show i + 1 + gp = aa.length + 1 by omega)
      have HII := Aside0.mk hi
      rw [← hx] at c4b0 ⊢
      clear hx hm hmm hwr hi hk HK
      go_wp2
      go_loopg [19] (m + 1) (fun kq v19 w' => ∃ (j : Nat) (ys : List S31), v19 = .int .i64 (j : Int) ∧ Aside0 (j + kq = m + 1) ∧ Aside0 (ys.length = aa.length ∧ ∀ q, (ys.getD q z31).f1.length = (aa.getD q z31).f1.length) ∧ Aside0 (Kd.S k31 31 w' w3.heap.size (fun _ => True) (.slice (some ⟨gS, 0, none⟩) aa.length ca) ys) ∧ Aside0 (Below w.heap.size w w') ∧ Aside0 (Below w3.heap.size w3 w'))
      case atStart => exact ⟨0, xs, rfl, ⟨by omega⟩, HL, HROW, HB, HB2⟩
      case round =>
        clear HB HB2 HROW HL
        obtain ⟨j, ys, rfl, HK, HL, HROW, HB, HB2⟩ := hrel
        have hk := HK.out
        obtain ⟨A, c, hz1, hcc, hput⟩ := Lr.words_put HROW.out i HII.out
        rw [HL.out.2 i, ← HMI.out] at hz1 hcc
        rw [show i = x.toNat by have := HXI.out; omega] at hz1
        by_cases hj : j < m
        · have d4b0 : decide ((j : Int) < (m : Int)) = true := decide_eq_true (by omega)
          obtain ⟨b, hA, hbb, hz2, hfz, hst⟩ := hput j (by rw [HL.out.2 i, ← HMI.out]; exact hj)
          subst hA
          obtain ⟨y, hy⟩ : ∃ y : Int, y = (j : Int) := ⟨_, rfl⟩
          obtain ⟨z, hz⟩ : ∃ z : Int, z = rd (ys.getD i z31).f1 (j : Int) := ⟨_, rfl⟩
          rw [← hz] at hz2
          have d5b0 : decide (0 ≤ y) = true := decide_eq_true (by omega)
          have d6b0 : decide (y < (m : Int)) = true := decide_eq_true (by omega)
          have p5 : (0 ≤ y) = True := eq_true (by omega)
          have p6 : (y < (m : Int)) = True := eq_true (by omega)
          have hwy : wrap64 (y + 1) = ((j + 1 : Nat) : Int) := by have := HMM.out; unfold wrap64; omega
          have hty : y.toNat = j := by omega
          rw [← hty] at hz2 hfz hst
          have HST := Aside0.mk hst
          have HWY := Aside0.mk hwy
          have HBB := Aside0.mk hbb
          have HCC := Aside0.mk hcc
          have HKY := Aside0.mk (show j + 1 + (gk - 1) = m + 1 by omega)
          have HGK := Aside0.mk (show 0 < gk by omega)
          rw [← hy] at d4b0 ⊢
          clear hy hz hst hwy hput hbb hcc hty hj hk HK
          go_wp2
          refine start_ (n := 17) (S := fun w' => w'.cell? ⟨gS, x.toNat * 7 + 1, none⟩ = some (.slice (some ⟨b, 0, none⟩) m c) ∧ w'.cell? ⟨b, y.toNat, none⟩ = some (.int .u8 z)) (ds := [16]) #[false, false, false, false, false, false, false, false, false, false, false, false, false, false, false, false, false] (by kernel_rfl) rfl rfl ⟨hz1, hz2⟩ (fun hHeld => ?_)
          refine pure_ (i := 0) (N := some 93) (v := ?_) (a' := ?_) #[true, false, false, false, false, false, false, false, false, false, false, false, false, false, false, false, false] rfl rfl (by kernel_rfl) (fun _ _ _ h => h) (Or.inl ⟨by rfl, ?_⟩) ?_ ?_
          rotate_left
          · intro w'
            go_simp
            with_reducible rfl
          rotate_left
          · simp only [Act.put, List.setIfInBounds_toArray, List.set_cons_zero, List.set_cons_succ, i64_w, i32_w]
            rfl
          refine pure_ (i := 1) (N := some 94) (v := ?_) (a' := ?_) #[true, true, false, false, false, false, false, false, false, false, false, false, false, false, false, false, false] rfl rfl (by kernel_rfl) (fun _ _ _ h => h) (Or.inl ⟨by rfl, ?_⟩) ?_ ?_
          rotate_left
          · intro w'
            go_simp
            with_reducible rfl
          rotate_left
          · simp only [Act.put, List.setIfInBounds_toArray, List.set_cons_zero, List.set_cons_succ, i64_w, i32_w]
            rfl
          refine pure_ (i := 2) (N := some 95) (v := ?_) (a' := ?_) #[true, true, true, false, false, false, false, false, false, false, false, false, false, false, false, false, false] rfl rfl (by kernel_rfl) (fun _ _ _ h => h) (Or.inl ⟨by rfl, ?_⟩) ?_ ?_
          rotate_left
          · intro w'
            go_simp
            with_reducible rfl
          rotate_left
          · simp only [Act.put, List.setIfInBounds_toArray, List.set_cons_zero, List.set_cons_succ, i64_w, i32_w]
            rfl
          refine pure_ (i := 3) (N := some 96) (v := ?_) (a' := ?_) #[true, true, true, true, false, false, false, false, false, false, false, false, false, false, false, false, false] rfl rfl (by kernel_rfl) (fun _ _ _ h => h) (Or.inl ⟨by rfl, ?_⟩) ?_ ?_
          rotate_left
          · intro w'
            go_simp
            with_reducible rfl
          rotate_left
          · simp only [Act.put, List.setIfInBounds_toArray, List.set_cons_zero, List.set_cons_succ, i64_w, i32_w]
            rfl
          refine pure_ (i := 5) (N := some 98) (v := ?_) (a' := ?_) #[true, true, true, true, false, true, false, false, false, false, false, false, false, false, false, false, false] rfl rfl (by kernel_rfl) (fun _ _ _ h => h) (Or.inl ⟨by rfl, ?_⟩) ?_ ?_
          rotate_left
          · intro w'
            go_simp
            with_reducible rfl
          rotate_left
          · simp only [Act.put, List.setIfInBounds_toArray, List.set_cons_zero, List.set_cons_succ, i64_w, i32_w]
            rfl
          refine pure_ (i := 6) (N := some 99) (v := ?_) (a' := ?_) #[true, true, true, true, false, true, true, false, false, false, false, false, false, false, false, false, false] rfl rfl (by kernel_rfl) (fun _ _ _ h => h) (Or.inl ⟨by rfl, ?_⟩) ?_ ?_
          rotate_left
          · intro w'
            go_simp
            with_reducible rfl
          rotate_left
          · simp only [Act.put, List.setIfInBounds_toArray, List.set_cons_zero, List.set_cons_succ, i64_w, i32_w]
            rfl
          refine pure_ (i := 7) (N := some 100) (v := ?_) (a' := ?_) #[true, true, true, true, false, true, true, true, false, false, false, false, false, false, false, false, false] rfl rfl (by kernel_rfl) (fun _ _ _ h => h) (Or.inl ⟨by rfl, ?_⟩) ?_ ?_
          rotate_left
          · intro w'
            go_simp
            with_reducible rfl
          rotate_left
          · simp only [Act.put, List.setIfInBounds_toArray, List.set_cons_zero, List.set_cons_succ, i64_w, i32_w]
            rfl
          refine pure_ (i := 8) (N := some 101) (v := ?_) (a' := ?_) #[true, true, true, true, false, true, true, true, true, false, false, false, false, false, false, false, false] rfl rfl (by kernel_rfl) (fun _ _ _ h => h) (Or.inl ⟨by rfl, ?_⟩) ?_ ?_
          rotate_left
          · intro w'
            go_simp
            with_reducible rfl
          rotate_left
          · simp only [Act.put, List.setIfInBounds_toArray, List.set_cons_zero, List.set_cons_succ, i64_w, i32_w]
            rfl
          refine pure_ (i := 9) (N := some 102) (v := ?_) (a' := ?_) #[true, true, true, true, false, true, true, true, true, true, false, false, false, false, false, false, false] rfl rfl (by kernel_rfl) (fun _ _ _ h => h) (Or.inl ⟨by rfl, ?_⟩) ?_ ?_
          rotate_left
          · intro w'
            go_simp
            with_reducible rfl
          rotate_left
          · simp only [Act.put, List.setIfInBounds_toArray, List.set_cons_zero, List.set_cons_succ, i64_w, i32_w]
            rfl
          refine pure_ (i := 11) (N := some 104) (v := ?_) (a' := ?_) #[true, true, true, true, false, true, true, true, true, true, false, true, false, false, false, false, false] rfl rfl (by kernel_rfl) (fun _ _ _ h => h) (Or.inl ⟨by rfl, ?_⟩) ?_ ?_
          rotate_left
          · intro w'
            go_simp
            with_reducible rfl
          rotate_left
          · simp only [Act.put, List.setIfInBounds_toArray, List.set_cons_zero, List.set_cons_succ, i64_w, i32_w]
            rfl
          refine take_ (i := 4) (N := some 97) (v := ?_) (a' := ?_) #[true, true, true, true, true, true, true, true, true, true, false, true, false, false, false, false, false] rfl rfl (by kernel_rfl) (fun _ _ _ h => h) (Or.inl ⟨by rfl, ?_⟩) hHeld ?_ ?_
          rotate_left
          · rintro w' ⟨s0, s1⟩
            go_simp
            with_reducible rfl
          rotate_left
          · simp only [Act.put, List.setIfInBounds_toArray, List.set_cons_zero, List.set_cons_succ, i64_w, i32_w]
            rfl
          refine take_ (i := 10) (N := some 103) (v := ?_) (a' := ?_) #[true, true, true, true, true, true, true, true, true, true, true, true, false, false, false, false, false] rfl rfl (by kernel_rfl) (fun _ _ _ h => h) (Or.inl ⟨by rfl, ?_⟩) hHeld ?_ ?_
          rotate_left
          · rintro w' ⟨s0, s1⟩
            go_simp
            with_reducible rfl
          rotate_left
          · simp only [Act.put, List.setIfInBounds_toArray, List.set_cons_zero, List.set_cons_succ, i64_w, i32_w]
            rfl
          refine pure_ (i := 12) (N := some 105) (v := ?_) (a' := ?_) #[true, true, true, true, true, true, true, true, true, true, true, true, true, false, false, false, false] rfl rfl (by kernel_rfl) (fun _ _ _ h => h) (Or.inl ⟨by rfl, ?_⟩) ?_ ?_
          rotate_left
          · intro w'
            go_simp
            with_reducible rfl
          rotate_left
          · simp only [Act.put, List.setIfInBounds_toArray, List.set_cons_zero, List.set_cons_succ, i64_w, i32_w]
            rfl
          refine take_ (i := 13) (N := some 106) (v := ?_) (a' := ?_) #[true, true, true, true, true, true, true, true, true, true, true, true, true, true, false, false, false] rfl rfl (by kernel_rfl) (fun _ _ _ h => h) (Or.inl ⟨by rfl, ?_⟩) hHeld ?_ ?_
          rotate_left
          · rintro w' ⟨s0, s1⟩
            go_simp
            with_reducible rfl
          rotate_left
          · simp only [Act.put, List.setIfInBounds_toArray, List.set_cons_zero, List.set_cons_succ, i64_w, i32_w]
            rfl
          refine pure_ (i := 14) (N := some 107) (v := ?_) (a' := ?_) #[true, true, true, true, true, true, true, true, true, true, true, true, true, true, true, false, false] rfl rfl (by kernel_rfl) (fun _ _ _ h => h) (Or.inl ⟨by rfl, ?_⟩) ?_ ?_
          rotate_left
          · intro w'
            go_simp
            with_reducible rfl
          rotate_left
          · simp only [Act.put, List.setIfInBounds_toArray, List.set_cons_zero, List.set_cons_succ, i64_w, i32_w]
            rfl
          refine pure_ (i := 15) (N := some 108) (v := ?_) (a' := ?_) #[true, true, true, true, true, true, true, true, true, true, true, true, true, true, true, true, false] rfl rfl (by kernel_rfl) (fun _ _ _ h => h) (Or.inl ⟨by rfl, ?_⟩) ?_ ?_
          rotate_left
          · intro w'
            go_simp
            with_reducible rfl
          rotate_left
          · simp only [Act.put, List.setIfInBounds_toArray, List.set_cons_zero, List.set_cons_succ, i64_w, i32_w]
            rfl
          refine last_ (i := 16) (N := none) #[true, true, true, true, true, true, true, true, true, true, true, true, true, true, true, true, true] rfl rfl (by kernel_rfl) (by decide) (fun K hK => ?_)
          have y2 := hz2
          have yf2 := hfz
          refine skip_ (w1 := ?_) (by rfl) rfl ?_ ?_
          rotate_left
          · go_simp
            rfl
          refine hK.out _ _ ?_
          clear hK K
          refine done_ (by kernel_rfl) ?_
          obtain ⟨zs, hzl, hzw, hzs⟩ := HST.out (IntKind.u8.wrap (z + 1))
          have HL2 := Aside0.mk (And.intro (hzl.trans HL.out.1) (fun q => (hzw q).trans (HL.out.2 q)))
          have HROW2 := Aside0.mk (Kd.S_drew hzs)
          have HBa := Aside0.mk (below_drew (below_set (g := b) (j := y.toNat) (v := .int .u8 (IntKind.u8.wrap (z + 1))) HB.out (Nat.le_trans HSZ.out HBB.out)))
          have HBb := Aside0.mk (below_drew (below_set (g := b) (j := y.toNat) (v := .int .u8 (IntKind.u8.wrap (z + 1))) HB2.out HBB.out))
          clear hzl hzw hzs HST HL HROW HB HB2 hz1 hz2 hfz y2 yf2 hHeld
          go_wp2
          go_roundg (gk - 1)
          case measure => have := HGK.out; omega
          case rel => exact ⟨j + 1, zs, by rw [HWY.out], HKY, HL2, HROW2, HBa, HBb⟩
        · have d4b0 : decide ((j : Int) < (m : Int)) = false := decide_eq_false (by omega)
          have d4b1 : decide (j < m) = false := decide_eq_false (by omega)
          have HXX := HXI
          clear hj hk HK hput hcc
          go_wp2
          go_roundg gp
          case measure => omega
          case rel => exact ⟨i + 1, ys, by rw [HWR.out], HK2, HL, HROW, HB, HB2⟩
    · have c4b0 : decide ((i : Int) < (aa.length : Int)) = false := decide_eq_false (by omega)
      have c4b1 : decide (i < aa.length) = false := decide_eq_false (by omega)
      clear hi hk HK
      go_wp2_with (first | (go_at_call 11; (with_reducible refine (quoinref21_Same.calls k _ _ tw _ _ l0 true _ (Kd.C_below HOT.out.2.2 HB2.out) HOT.out.2.1 (Kd.C_below HR0.out HB.out) HC0.out HS2.out).mono ?_); rintro e_ w8 ⟨rfl, hb⟩; have HBZ := Aside0.mk (below_step HB.out hb); clear HB; have HB := HBZ; clear HBZ; have HB2Z := Aside0.mk (below_step HB2.out hb); clear HB2; have HB2 := HB2Z; clear HB2Z; clear hb))
      go_ret
      exact ⟨rfl, HB.out⟩
/-- What is asked of the law's inputs, told of what the functions that it calls answer. -/
def quoinlaw21_LabelsRename.ok (k : Nat) (l0 : List (S31)) (a1 : ByteArray) (a2 : Int) : Bool :=
  match quoinref21_Twin.f k l0 with
  | none => false
  | some tw =>
    match labels_Rename.f tw, quoinref21_Rename.f k l0, labels_Name.f a1 a2, quoinref21_Name.f k a1 a2 with
    | some (aa, at_, e), some (bb, wh, f), some (s, g), some (t, h) => decide (at_ = wh ∧ e = f ∧ s = t ∧ g = h ∧ quoinref21_Same.f k aa bb = some true ∧ quoinref21_Same.f k tw l0 = some true ∧ aa.length ≤ 2000 ∧ ∀ x ∈ aa, x.f1.length ≤ 1000000)
    | _, _, _, _ => false
theorem quoinlaw21_LabelsRename.ok_of (k : Nat) (l0 : List (S31)) (a1 : ByteArray) (a2 : Int) (tw aa : List S31) (at_ e : Int) (bb : List S31) (s : ByteArray) (g : Int) (htw : quoinref21_Twin.f k l0 = some tw) (hm : labels_Rename.f tw = some (aa, at_, e)) (hbb : quoinref21_Rename.f k l0 = some (bb, at_, e)) (hn : labels_Name.f a1 a2 = some (s, g)) (hn2 : quoinref21_Name.f k a1 a2 = some (s, g)) (hs : quoinref21_Same.f k aa bb = some true) (hs2 : quoinref21_Same.f k tw l0 = some true) (hla : aa.length ≤ 2000) (hwa : ∀ x ∈ aa, x.f1.length ≤ 1000000) : quoinlaw21_LabelsRename.ok k l0 a1 a2 = true := by
  unfold quoinlaw21_LabelsRename.ok
  rw [htw]
  simp only
  rw [hm, hbb, hn, hn2]
  simp only
  exact decide_eq_true ⟨by trivial, by trivial, by trivial, by trivial, hs, hs2, hla, hwa⟩
def quoinlaw21_LabelsRename.f (k : Nat) (l0 : List (S31)) (a1 : ByteArray) (a2 : Int) : Option (Bool) :=
  (quoinref20_Great.f k l0).bind fun gr => if gr = true ∨ (1000 : Int) < (a1.size : Int) ∨ quoinlaw21_LabelsRename.ok k l0 a1 a2 = true then some true else none
theorem quoinlaw21_LabelsRename.calls (k : Nat) (A0 : Option Addr) (c0 : Nat) (l0 : List (S31)) (a1 : ByteArray) (a2 : Int) (r : Bool) (w : World) (hr0 : Kd.C k31 w A0 l0.length l0) (hc0 : l0.length ≤ c0) (hT : Lib.TabIs Tryd.prog w "internal/strconv.uint64pow10" .u64 Lib.pow10Tab) (h : quoinlaw21_LabelsRename.f k l0 a1 a2 = some r) :
    Calls Tryd.prog 6 #[.slice A0 l0.length c0, .string a1, .int .i64 a2] w fun e w' => e = .returned (.bool r) ∧ Below w.heap.size w w' := by
  unfold quoinlaw21_LabelsRename.f at h
  cases hg : quoinref20_Great.f k l0 with
  | none => rw [hg] at h; cases h
  | some gr =>
    rw [hg, Option.bind_some] at h
    split at h
    · rename_i hc
      obtain rfl := Option.some.inj h
      clear h
      cases gr with
      | true => exact rename_great k A0 c0 l0 a1 a2 w hr0 hc0 hT true rfl hg
      | false =>
        by_cases h1 : (1000 : Int) < (a1.size : Int)
        · exact rename_long k A0 c0 l0 a1 a2 w hr0 hc0 hT hg h1
        · rcases hc with hc | hc | hc
          · cases hc
          · exact absurd hc h1
          · unfold quoinlaw21_LabelsRename.ok at hc
            split at hc
            · cases hc
            · rename_i tw htw
              split at hc
              · rename_i aa at_ e bb wh f s g t h hm hbb hn hn2
                obtain ⟨rfl, rfl, rfl, rfl, hs, hs2, hla, hwa⟩ := of_decide_eq_true hc
                refine rename_go k A0 c0 l0 a1 a2 w hr0 hc0 hT hg h1 tw htw aa _ _ hm bb hbb _ _ hn hn2 hs hs2 hla (fun q => ?_)
                by_cases hq : q < aa.length
                · rw [List.getD_eq_getElem?_getD, List.getElem?_eq_getElem hq]
                  exact hwa _ (List.getElem_mem hq)
                · rw [List.getD_eq_getElem?_getD, List.getElem?_eq_none (by omega)]
                  exact Nat.zero_le _
              · cases hc
    · cases h

/-- THE ONE PURE STATEMENT of quoinlaw21_LabelsRename: yours. -/
def quoinlaw21_LabelsRename.Pure : Prop := ∀ (l0 : List (S31)) (a1 : ByteArray) (a2 : Int), (l0.length ≤ maxLen ∧ ∀ x0_ ∈ l0, wfS31 x0_) → a1.size ≤ 140737488351232 → (Lit.int .i64 a2).wf = true → ∃ k, quoinlaw21_LabelsRename.f k l0 a1 a2 = some true
theorem quoinlaw21_LabelsRename.walk (P : quoinlaw21_LabelsRename.Pure) (A0 : Option Addr) (c0 : Nat) (l0 : List (S31)) (a1 : ByteArray) (a2 : Int) (w : World) (hr0 : Kd.C k31 w A0 l0.length l0) (hc0 : l0.length ≤ c0) (hT : Lib.TabIs Tryd.prog w "internal/strconv.uint64pow10" .u64 Lib.pow10Tab) (w0_0 : (l0.length ≤ maxLen ∧ ∀ x0_ ∈ l0, wfS31 x0_)) (w1_0 : a1.size ≤ 140737488351232) (w2_0 : (Lit.int .i64 a2).wf = true) :
  Calls Tryd.prog 6 #[.slice A0 l0.length c0, .string a1, .int .i64 a2] w fun e w' => e = .returned (.bool true) ∧ Below w.heap.size w w' := by
 obtain ⟨k, h⟩ := P l0 a1 a2 w0_0 w1_0 w2_0
 refine (quoinlaw21_LabelsRename.calls k A0 c0 l0 a1 a2 true w hr0 hc0 hT h).mono ?_
 rintro e w' ⟨rfl, hd⟩
 exact ⟨rfl, hd⟩

end Go.Proofs.YtkjmbfabgkppaaaDoor.P
