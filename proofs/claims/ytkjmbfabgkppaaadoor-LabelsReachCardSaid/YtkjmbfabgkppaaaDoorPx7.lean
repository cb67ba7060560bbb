-- Written by pext.py, a program of this session, over the kit's print: a function's contract
import Derived.Test.YtkjmbfabgkppaaaDoorPx0
import Derived.Test.YtkjmbfabgkppaaaDoorPx2
import Derived.Test.YtkjmbfabgkppaaaDoorPx3
import Derived.Test.YtkjmbfabgkppaaaDoorPx4
namespace Go.Proofs.YtkjmbfabgkppaaaDoor.P
open Go.RowKit Go.Proofs.YtkjmbfabgkppaaaDoorW.PrintWords Go.Proofs.YtkjmbfabgkppaaaDoorW.PrintLast Go.Proofs.YtkjmbfabgkppaaaDoorW.PrintMore
attribute [local go_sem] max2_int min2_int max_two min_two max_three min_three max_four min_four   -- for this text's walks alone
set_option linter.unusedVariables false
set_option linter.unusedSimpArgs false

/-! ### quoinlaw21_LabelsReach: function 4 -/
mutual
def quoinlaw21_LabelsReach.j0 : Nat → List (S31) → Int → Bool → Bool → Option (Bool)
 | 0, _, _, _, _ => none
 | k + 1, x0, x1, x5, x28 => if x28 = true then (some x5) else ((labels_Rename.f x0).bind fun bt195 => (if 0 ≤ x1 then (if x1 < (x0.length : Int) then ((quoinref21_Asks.f k ((rd_T31 x0 x1).f3)).bind fun bt201 => (if bt195.2.2 = 0 then (if bt201.2.2 = true then (quoinlaw21_LabelsReach.j1 k x0 x1 x5 bt195.1 bt201.1 bt201.2.1 (((rd_T31 x0 x1).f0) != 1)) else (quoinlaw21_LabelsReach.j1 k x0 x1 x5 bt195.1 bt201.1 bt201.2.1 true)) else (quoinlaw21_LabelsReach.j1 k x0 x1 x5 bt195.1 bt201.1 bt201.2.1 true))) else (none)) else (none)))
def quoinlaw21_LabelsReach.j1 : Nat → List (S31) → Int → Bool → List (S31) → ByteArray → Bool → Bool → Option (Bool)
 | 0, _, _, _, _, _, _, _ => none
 | k + 1, x0, x1, x5, x6, x9, x10, x59 => if x59 = true then (some x5) else (if x10 = true then (quoinlaw21_LabelsReach.j2 k x0 x1 x5 x6 x9 (-1)) else (quoinlaw21_LabelsReach.j2 k x0 x1 x5 x6 x9 1))
def quoinlaw21_LabelsReach.j2 : Nat → List (S31) → Int → Bool → List (S31) → ByteArray → Int → Option (Bool)
 | 0, _, _, _, _, _, _ => none
 | k + 1, x0, x1, x5, x6, x9, x12 => quoinlaw21_LabelsReach.l0 k x0 x1 x5 x6 x9 x12 (wrap64 (x1 + x12))
def quoinlaw21_LabelsReach.l0 : Nat → List (S31) → Int → Bool → List (S31) → ByteArray → Int → Int → Option (Bool)
 | 0, _, _, _, _, _, _, _ => none
 | k + 1, x0, x1, x5, x6, x9, x12, x13 => if x13 ≥ 0 then (quoinlaw21_LabelsReach.j4 k x0 x1 x5 x6 x9 x12 x13 (decide (x13 < (x0.length : Int)))) else (none)
def quoinlaw21_LabelsReach.j4 : Nat → List (S31) → Int → Bool → List (S31) → ByteArray → Int → Int → Bool → Option (Bool)
 | 0, _, _, _, _, _, _, _, _ => none
 | k + 1, x0, x1, x5, x6, x9, x12, x13, x72 => if x72 = true then (if 0 ≤ x13 then (if x13 < (x0.length : Int) then (if ((rd_T31 x0 x13).f0) = 6 then (if ((rd_T31 x0 x13).f3).toList = x9.toList then (if x5 = true then (if x13 < (x6.length : Int) then (if 0 ≤ x1 then (if x1 < (x6.length : Int) then (some (((rd_T31 x6 x13).f3).toList == ((rd_T31 x6 x1).f3).toList)) else (none)) else (none)) else (none)) else (none)) else (quoinlaw21_LabelsReach.l0 k x0 x1 x5 x6 x9 x12 (wrap64 (x13 + x12)))) else (quoinlaw21_LabelsReach.l0 k x0 x1 x5 x6 x9 x12 (wrap64 (x13 + x12)))) else (none)) else (none)) else (none)
end
def quoinlaw21_LabelsReach.f (k : Nat) (l0 : List (S31)) (a1 : Int) : Option (Bool) := (quoinlaw21_alive.f).bind fun t193 => (if t193 = true then ((quoinref20_Great.f k l0).bind fun t194 => (if t194 = true then (quoinlaw21_LabelsReach.j0 k l0 a1 t193 true) else (if a1 < 0 then (quoinlaw21_LabelsReach.j0 k l0 a1 t193 true) else (quoinlaw21_LabelsReach.j0 k l0 a1 t193 (decide (a1 ≥ (l0.length : Int))))))) else (none))
theorem quoinlaw21_LabelsReach.mono_l : ∀ k, (∀ y0 y1 y2 y3, LeO (quoinlaw21_LabelsReach.j0 k y0 y1 y2 y3) (quoinlaw21_LabelsReach.j0 (k + 1) y0 y1 y2 y3)) ∧ (∀ y0 y1 y2 y3 y4 y5 y6, LeO (quoinlaw21_LabelsReach.j1 k y0 y1 y2 y3 y4 y5 y6) (quoinlaw21_LabelsReach.j1 (k + 1) y0 y1 y2 y3 y4 y5 y6)) ∧ (∀ y0 y1 y2 y3 y4 y5, LeO (quoinlaw21_LabelsReach.j2 k y0 y1 y2 y3 y4 y5) (quoinlaw21_LabelsReach.j2 (k + 1) y0 y1 y2 y3 y4 y5)) ∧ (∀ y0 y1 y2 y3 y4 y5 y6, LeO (quoinlaw21_LabelsReach.l0 k y0 y1 y2 y3 y4 y5 y6) (quoinlaw21_LabelsReach.l0 (k + 1) y0 y1 y2 y3 y4 y5 y6)) ∧ (∀ y0 y1 y2 y3 y4 y5 y6 y7, LeO (quoinlaw21_LabelsReach.j4 k y0 y1 y2 y3 y4 y5 y6 y7) (quoinlaw21_LabelsReach.j4 (k + 1) y0 y1 y2 y3 y4 y5 y6 y7))
 | 0 => ⟨fun _ _ _ _ r h => by simp [quoinlaw21_LabelsReach.j0] at h, fun _ _ _ _ _ _ _ r h => by simp [quoinlaw21_LabelsReach.j1] at h, fun _ _ _ _ _ _ r h => by simp [quoinlaw21_LabelsReach.j2] at h, fun _ _ _ _ _ _ _ r h => by simp [quoinlaw21_LabelsReach.l0] at h, fun _ _ _ _ _ _ _ _ r h => by simp [quoinlaw21_LabelsReach.j4] at h⟩
 | k + 1 => by
  obtain ⟨ih0, ih1, ih2, ih3, ih4⟩ := quoinlaw21_LabelsReach.mono_l k
  refine ⟨?_, ?_, ?_, ?_, ?_⟩
  ·
   intro y0 y1 y2 y3
   unfold quoinlaw21_LabelsReach.j0
   repeat' first
   | (with_reducible exact ih0 _ _ _ _)
   | (with_reducible exact ih1 _ _ _ _ _ _ _)
   | (with_reducible exact ih2 _ _ _ _ _ _)
   | (with_reducible exact ih3 _ _ _ _ _ _ _)
   | (with_reducible exact ih4 _ _ _ _ _ _ _ _)
   | (with_reducible exact quoinref20_Great.mono _ _)
   | (with_reducible exact quoinref21_Asks.mono _ _)
   | (with_reducible exact LeO.refl _)
   | (with_reducible exact LeO.none _)
   | (with_reducible refine LeO.ite ?_ ?_)
   | (with_reducible refine LeO.bind ?_ (fun _ => ?_))
   | exact ih0 _ _ _ _
   | exact ih1 _ _ _ _ _ _ _
   | exact ih2 _ _ _ _ _ _
   | exact ih3 _ _ _ _ _ _ _
   | exact ih4 _ _ _ _ _ _ _ _
   | exact quoinref20_Great.mono _ _
   | exact quoinref21_Asks.mono _ _
   | exact LeO.none _
   | refine LeO.ite ?_ ?_
   | refine LeO.bind ?_ (fun _ => ?_)
  ·
   intro y0 y1 y2 y3 y4 y5 y6
   unfold quoinlaw21_LabelsReach.j1
   repeat' first
   | (with_reducible exact ih0 _ _ _ _)
   | (with_reducible exact ih1 _ _ _ _ _ _ _)
   | (with_reducible exact ih2 _ _ _ _ _ _)
   | (with_reducible exact ih3 _ _ _ _ _ _ _)
   | (with_reducible exact ih4 _ _ _ _ _ _ _ _)
   | (with_reducible exact quoinref20_Great.mono _ _)
   | (with_reducible exact quoinref21_Asks.mono _ _)
   | (with_reducible exact LeO.refl _)
   | (with_reducible exact LeO.none _)
   | (with_reducible refine LeO.ite ?_ ?_)
   | (with_reducible refine LeO.bind ?_ (fun _ => ?_))
   | exact ih0 _ _ _ _
   | exact ih1 _ _ _ _ _ _ _
   | exact ih2 _ _ _ _ _ _
   | exact ih3 _ _ _ _ _ _ _
   | exact ih4 _ _ _ _ _ _ _ _
   | exact quoinref20_Great.mono _ _
   | exact quoinref21_Asks.mono _ _
   | exact LeO.none _
   | refine LeO.ite ?_ ?_
   | refine LeO.bind ?_ (fun _ => ?_)
  ·
   intro y0 y1 y2 y3 y4 y5
   unfold quoinlaw21_LabelsReach.j2
   repeat' first
   | (with_reducible exact ih0 _ _ _ _)
   | (with_reducible exact ih1 _ _ _ _ _ _ _)
   | (with_reducible exact ih2 _ _ _ _ _ _)
   | (with_reducible exact ih3 _ _ _ _ _ _ _)
   | (with_reducible exact ih4 _ _ _ _ _ _ _ _)
   | (with_reducible exact quoinref20_Great.mono _ _)
   | (with_reducible exact quoinref21_Asks.mono _ _)
   | (with_reducible exact LeO.refl _)
   | (with_reducible exact LeO.none _)
   | (with_reducible refine LeO.ite ?_ ?_)
   | (with_reducible refine LeO.bind ?_ (fun _ => ?_))
   | exact ih0 _ _ _ _
   | exact ih1 _ _ _ _ _ _ _
   | exact ih2 _ _ _ _ _ _
   | exact ih3 _ _ _ _ _ _ _
   | exact ih4 _ _ _ _ _ _ _ _
   | exact quoinref20_Great.mono _ _
   | exact quoinref21_Asks.mono _ _
   | exact LeO.none _
   | refine LeO.ite ?_ ?_
   | refine LeO.bind ?_ (fun _ => ?_)
  ·
   intro y0 y1 y2 y3 y4 y5 y6
   unfold quoinlaw21_LabelsReach.l0
   repeat' first
   | (with_reducible exact ih0 _ _ _ _)
   | (with_reducible exact ih1 _ _ _ _ _ _ _)
   | (with_reducible exact ih2 _ _ _ _ _ _)
   | (with_reducible exact ih3 _ _ _ _ _ _ _)
   | (with_reducible exact ih4 _ _ _ _ _ _ _ _)
   | (with_reducible exact quoinref20_Great.mono _ _)
   | (with_reducible exact quoinref21_Asks.mono _ _)
   | (with_reducible exact LeO.refl _)
   | (with_reducible exact LeO.none _)
   | (with_reducible refine LeO.ite ?_ ?_)
   | (with_reducible refine LeO.bind ?_ (fun _ => ?_))
   | exact ih0 _ _ _ _
   | exact ih1 _ _ _ _ _ _ _
   | exact ih2 _ _ _ _ _ _
   | exact ih3 _ _ _ _ _ _ _
   | exact ih4 _ _ _ _ _ _ _ _
   | exact quoinref20_Great.mono _ _
   | exact quoinref21_Asks.mono _ _
   | exact LeO.none _
   | refine LeO.ite ?_ ?_
   | refine LeO.bind ?_ (fun _ => ?_)
  ·
   intro y0 y1 y2 y3 y4 y5 y6 y7
   unfold quoinlaw21_LabelsReach.j4
   repeat' first
   | (with_reducible exact ih0 _ _ _ _)
   | (with_reducible exact ih1 _ _ _ _ _ _ _)
   | (with_reducible exact ih2 _ _ _ _ _ _)
   | (with_reducible exact ih3 _ _ _ _ _ _ _)
   | (with_reducible exact ih4 _ _ _ _ _ _ _ _)
   | (with_reducible exact quoinref20_Great.mono _ _)
   | (with_reducible exact quoinref21_Asks.mono _ _)
   | (with_reducible exact LeO.refl _)
   | (with_reducible exact LeO.none _)
   | (with_reducible refine LeO.ite ?_ ?_)
   | (with_reducible refine LeO.bind ?_ (fun _ => ?_))
   | exact ih0 _ _ _ _
   | exact ih1 _ _ _ _ _ _ _
   | exact ih2 _ _ _ _ _ _
   | exact ih3 _ _ _ _ _ _ _
   | exact ih4 _ _ _ _ _ _ _ _
   | exact quoinref20_Great.mono _ _
   | exact quoinref21_Asks.mono _ _
   | exact LeO.none _
   | refine LeO.ite ?_ ?_
   | refine LeO.bind ?_ (fun _ => ?_)
theorem quoinlaw21_LabelsReach.mono : ∀ a0 a1 k, LeO (quoinlaw21_LabelsReach.f k a0 a1) (quoinlaw21_LabelsReach.f (k + 1) a0 a1) := by
 intro a0 a1 k
 obtain ⟨ih0, ih1, ih2, ih3, ih4⟩ := quoinlaw21_LabelsReach.mono_l k
 unfold quoinlaw21_LabelsReach.f
 repeat' first
   | (with_reducible exact ih0 _ _ _ _)
   | (with_reducible exact ih1 _ _ _ _ _ _ _)
   | (with_reducible exact ih2 _ _ _ _ _ _)
   | (with_reducible exact ih3 _ _ _ _ _ _ _)
   | (with_reducible exact ih4 _ _ _ _ _ _ _ _)
   | (with_reducible exact quoinref20_Great.mono _ _)
   | (with_reducible exact quoinref21_Asks.mono _ _)
   | (with_reducible exact LeO.refl _)
   | (with_reducible exact LeO.none _)
   | (with_reducible refine LeO.ite ?_ ?_)
   | (with_reducible refine LeO.bind ?_ (fun _ => ?_))
   | exact ih0 _ _ _ _
   | exact ih1 _ _ _ _ _ _ _
   | exact ih2 _ _ _ _ _ _
   | exact ih3 _ _ _ _ _ _ _
   | exact ih4 _ _ _ _ _ _ _ _
   | exact quoinref20_Great.mono _ _
   | exact quoinref21_Asks.mono _ _
   | exact LeO.none _
   | refine LeO.ite ?_ ?_
   | refine LeO.bind ?_ (fun _ => ?_)
set_option maxHeartbeats 8000000 in
set_option maxRecDepth 100000 in
theorem quoinlaw21_LabelsReach.calls (k : Nat) (A0 : Option Addr) (c0 : Nat) (l0 : List (S31)) (a1 : Int) (r : Bool) (w : World) (hr0 : Kd.C k31 w A0 l0.length l0) (hc0 : l0.length ≤ c0) (hT : Lib.TabIs Tryd.prog w "internal/strconv.uint64pow10" .u64 Lib.pow10Tab) (h : quoinlaw21_LabelsReach.f k l0 a1 = some r) :
  Calls Tryd.prog 4 #[.slice A0 l0.length c0, .int .i64 a1] w fun e w' => e = .returned (.bool r) ∧ Below w.heap.size w w' := by
 have HR0 := Aside0.mk hr0
 have HC0 := Aside0.mk hc0
 clear hr0 hc0
 have HT := Aside0.mk hT
 clear hT
 have HB := Aside0.mk (Below.refl w.heap.size w)
 have H : ((quoinlaw21_alive.f).bind fun t193 => (if t193 = true then ((quoinref20_Great.f k l0).bind fun t194 => (if t194 = true then (quoinlaw21_LabelsReach.j0 k l0 a1 t193 true) else (if a1 < 0 then (quoinlaw21_LabelsReach.j0 k l0 a1 t193 true) else (quoinlaw21_LabelsReach.j0 k l0 a1 t193 (decide (a1 ≥ (l0.length : Int))))))) else (none))) = some r := h
 clear h
 replace H := Option.bind_eq_some_iff.mp H
 obtain ⟨t193, A30, H⟩ := H
 replace H : (if t193 = true then ((quoinref20_Great.f k l0).bind fun t194 => (if t194 = true then (quoinlaw21_LabelsReach.j0 k l0 a1 t193 true) else (if a1 < 0 then (quoinlaw21_LabelsReach.j0 k l0 a1 t193 true) else (quoinlaw21_LabelsReach.j0 k l0 a1 t193 (decide (a1 ≥ (l0.length : Int))))))) else (none)) = some r := H
 have A3 := Aside0.mk A30
 clear A30
 by_cases c4 : t193 = true
 ·
  subst c4
  have H1 : ((quoinref20_Great.f k l0).bind fun t194 => (if t194 = true then (quoinlaw21_LabelsReach.j0 k l0 a1 true true) else (if a1 < 0 then (quoinlaw21_LabelsReach.j0 k l0 a1 true true) else (quoinlaw21_LabelsReach.j0 k l0 a1 true (decide (a1 ≥ (l0.length : Int))))))) = some r := by rw [if_pos rfl] at H; exact H
  clear H
  have H := H1
  clear H1
  have HC5 := Aside0.mk H
  clear H
  go_enter Tryd.func4, Tryd.ntmps4
  go_upto_region 4 with (first | (go_at_call 8; (with_reducible refine (quoinlaw21_alive.calls  true _ ?side1 A3.out).mono ?_); (case side1 => exact Lib.tabBelow_of_tabIs HT.out _ (by repeat (first | (with_reducible first | exact HB.out | apply below_alloc | apply pw_below_drewN | apply below_drew1) | exact HB.out))); rintro e w6 ⟨rfl, hb⟩; have n0_ := Aside0.mk (below_step (by repeat (first | (with_reducible first | exact HB.out | apply below_alloc | apply pw_below_drewN | apply below_drew1) | exact HB.out)) hb); clear HB; have HB := n0_; clear n0_; (try clear hb); (try clear hb2); (try clear hk); (try clear hi)))
  repeat (go_quiet (first | (go_at_call 8; (with_reducible refine (quoinlaw21_alive.calls  true _ ?side1 A3.out).mono ?_); (case side1 => exact Lib.tabBelow_of_tabIs HT.out _ (by repeat (first | (with_reducible first | exact HB.out | apply below_alloc | apply pw_below_drewN | apply below_drew1) | exact HB.out))); rintro e w6 ⟨rfl, hb⟩; have n0_ := Aside0.mk (below_step (by repeat (first | (with_reducible first | exact HB.out | apply below_alloc | apply pw_below_drewN | apply below_drew1) | exact HB.out)) hb); clear HB; have HB := n0_; clear n0_; (try clear hb); (try clear hb2); (try clear hk); (try clear hi))); go_upto_region 4 with (first | (go_at_call 8; (with_reducible refine (quoinlaw21_alive.calls  true _ ?side1 A3.out).mono ?_); (case side1 => exact Lib.tabBelow_of_tabIs HT.out _ (by repeat (first | (with_reducible first | exact HB.out | apply below_alloc | apply pw_below_drewN | apply below_drew1) | exact HB.out))); rintro e w6 ⟨rfl, hb⟩; have n0_ := Aside0.mk (below_step (by repeat (first | (with_reducible first | exact HB.out | apply below_alloc | apply pw_below_drewN | apply below_drew1) | exact HB.out)) hb); clear HB; have HB := n0_; clear n0_; (try clear hb); (try clear hb2); (try clear hk); (try clear hi))))
  (try simp only [Act.put, List.setIfInBounds_toArray, List.set_cons_zero, List.set_cons_succ])
  go_cut [28] (fun v28 wc => ∃ (kq : Nat) (x28_4 : Bool), v28 = .bool x28_4 ∧ Aside0 (quoinlaw21_LabelsReach.j0 kq l0 a1 true x28_4 = some r) ∧ Aside0 (kq ≤ k) ∧ Aside0 (Below w.heap.size w wc))
  case first =>
   have H := HC5.out
   clear HC5
   replace H := Option.bind_eq_some_iff.mp H
   obtain ⟨t194, A70, H⟩ := H
   replace H : (if t194 = true then (quoinlaw21_LabelsReach.j0 k l0 a1 true true) else (if a1 < 0 then (quoinlaw21_LabelsReach.j0 k l0 a1 true true) else (quoinlaw21_LabelsReach.j0 k l0 a1 true (decide (a1 ≥ (l0.length : Int)))))) = some r := H
   have A7 := Aside0.mk A70
   clear A70
   by_cases c8 : t194 = true
   ·
    subst c8
    have H1 : (quoinlaw21_LabelsReach.j0 k l0 a1 true true) = some r := by rw [if_pos rfl] at H; exact H
    clear H
    have H := H1
    clear H1
    have H' := Aside0.mk H
    clear H
    go_wp2_with (first | (go_at_call 9; (with_reducible refine (quoinref20_Great.calls k _ _ l0 true _ ?side1 ?side2 A7.out).mono ?_); (case side1 => repeat (first | exact (Kd.C_below HR0.out HB.out) | (with_reducible refine Kd.C_alloc ?_ _) | (with_reducible refine Kd.C_drewN ?_ _) | (with_reducible refine Kd.C_drew ?_))); (case side2 => exact HC0.out); rintro e w9 ⟨rfl, hb⟩; have n0_ := Aside0.mk (below_step (by repeat (first | (with_reducible first | exact HB.out | apply below_alloc | apply pw_below_drewN | apply below_drew1) | exact HB.out)) hb); clear HB; have HB := n0_; clear n0_; (try clear hb); (try clear hb2); (try clear hk); (try clear hi)))
    repeat (go_quiet (first | (go_at_call 9; (with_reducible refine (quoinref20_Great.calls k _ _ l0 true _ ?side1 ?side2 A7.out).mono ?_); (case side1 => repeat (first | exact (Kd.C_below HR0.out HB.out) | (with_reducible refine Kd.C_alloc ?_ _) | (with_reducible refine Kd.C_drewN ?_ _) | (with_reducible refine Kd.C_drew ?_))); (case side2 => exact HC0.out); rintro e w9 ⟨rfl, hb⟩; have n0_ := Aside0.mk (below_step (by repeat (first | (with_reducible first | exact HB.out | apply below_alloc | apply pw_below_drewN | apply below_drew1) | exact HB.out)) hb); clear HB; have HB := n0_; clear n0_; (try clear hb); (try clear hb2); (try clear hk); (try clear hi))); try go_wp2_with (first | (go_at_call 9; (with_reducible refine (quoinref20_Great.calls k _ _ l0 true _ ?side1 ?side2 A7.out).mono ?_); (case side1 => repeat (first | exact (Kd.C_below HR0.out HB.out) | (with_reducible refine Kd.C_alloc ?_ _) | (with_reducible refine Kd.C_drewN ?_ _) | (with_reducible refine Kd.C_drew ?_))); (case side2 => exact HC0.out); rintro e w9 ⟨rfl, hb⟩; have n0_ := Aside0.mk (below_step (by repeat (first | (with_reducible first | exact HB.out | apply below_alloc | apply pw_below_drewN | apply below_drew1) | exact HB.out)) hb); clear HB; have HB := n0_; clear n0_; (try clear hb); (try clear hb2); (try clear hk); (try clear hi))))
    go_meet
    case rel => exact ⟨_, (true), (by first | rfl | (simp; done) | (simp [*]; done)), H', ⟨by first | omega | exact Nat.le_refl _⟩, ⟨by repeat (first | (with_reducible first | exact HB.out | apply below_alloc | apply pw_below_drewN | apply below_drew1) | exact HB.out)⟩⟩
   ·
    replace c8 := Bool.eq_false_iff.mpr c8
    (try subst c8)
    have H1 : (if a1 < 0 then (quoinlaw21_LabelsReach.j0 k l0 a1 true true) else (quoinlaw21_LabelsReach.j0 k l0 a1 true (decide (a1 ≥ (l0.length : Int))))) = some r := by first | (rw [if_neg (show ¬ (false = true) by decide)] at H; exact H) | exact absurd c8 (by decide)
    clear H
    have H := H1
    clear H1
    by_cases c10 : a1 < 0
    ·
     rw [if_pos c10] at H
     have c10b0 : decide (a1 < 0) = true := decide_eq_true c10
     clear c10
     (first | rw [c10b0] | (simp only [i64_w, i32_w]; rw [c10b0]) | skip)
     have H' := Aside0.mk H
     clear H
     go_wp2_with (first | (go_at_call 9; (with_reducible refine (quoinref20_Great.calls k _ _ l0 false _ ?side1 ?side2 A7.out).mono ?_); (case side1 => repeat (first | exact (Kd.C_below HR0.out HB.out) | (with_reducible refine Kd.C_alloc ?_ _) | (with_reducible refine Kd.C_drewN ?_ _) | (with_reducible refine Kd.C_drew ?_))); (case side2 => exact HC0.out); rintro e w11 ⟨rfl, hb⟩; have n0_ := Aside0.mk (below_step (by repeat (first | (with_reducible first | exact HB.out | apply below_alloc | apply pw_below_drewN | apply below_drew1) | exact HB.out)) hb); clear HB; have HB := n0_; clear n0_; (try clear hb); (try clear hb2); (try clear hk); (try clear hi)))
     repeat (go_quiet (first | (go_at_call 9; (with_reducible refine (quoinref20_Great.calls k _ _ l0 false _ ?side1 ?side2 A7.out).mono ?_); (case side1 => repeat (first | exact (Kd.C_below HR0.out HB.out) | (with_reducible refine Kd.C_alloc ?_ _) | (with_reducible refine Kd.C_drewN ?_ _) | (with_reducible refine Kd.C_drew ?_))); (case side2 => exact HC0.out); rintro e w11 ⟨rfl, hb⟩; have n0_ := Aside0.mk (below_step (by repeat (first | (with_reducible first | exact HB.out | apply below_alloc | apply pw_below_drewN | apply below_drew1) | exact HB.out)) hb); clear HB; have HB := n0_; clear n0_; (try clear hb); (try clear hb2); (try clear hk); (try clear hi))); try go_wp2_with (first | (go_at_call 9; (with_reducible refine (quoinref20_Great.calls k _ _ l0 false _ ?side1 ?side2 A7.out).mono ?_); (case side1 => repeat (first | exact (Kd.C_below HR0.out HB.out) | (with_reducible refine Kd.C_alloc ?_ _) | (with_reducible refine Kd.C_drewN ?_ _) | (with_reducible refine Kd.C_drew ?_))); (case side2 => exact HC0.out); rintro e w11 ⟨rfl, hb⟩; have n0_ := Aside0.mk (below_step (by repeat (first | (with_reducible first | exact HB.out | apply below_alloc | apply pw_below_drewN | apply below_drew1) | exact HB.out)) hb); clear HB; have HB := n0_; clear n0_; (try clear hb); (try clear hb2); (try clear hk); (try clear hi))))
     go_meet
     case rel => exact ⟨_, (true), (by first | rfl | (simp; done) | (simp [*]; done)), H', ⟨by first | omega | exact Nat.le_refl _⟩, ⟨by repeat (first | (with_reducible first | exact HB.out | apply below_alloc | apply pw_below_drewN | apply below_drew1) | exact HB.out)⟩⟩
    ·
     rw [if_neg c10] at H
     have c10b0 : decide (a1 < 0) = false := decide_eq_false c10
     clear c10
     (first | rw [c10b0] | (simp only [i64_w, i32_w]; rw [c10b0]) | skip)
     have H' := Aside0.mk H
     clear H
     go_wp2_with (first | (go_at_call 9; (with_reducible refine (quoinref20_Great.calls k _ _ l0 false _ ?side1 ?side2 A7.out).mono ?_); (case side1 => repeat (first | exact (Kd.C_below HR0.out HB.out) | (with_reducible refine Kd.C_alloc ?_ _) | (with_reducible refine Kd.C_drewN ?_ _) | (with_reducible refine Kd.C_drew ?_))); (case side2 => exact HC0.out); rintro e w12 ⟨rfl, hb⟩; have n0_ := Aside0.mk (below_step (by repeat (first | (with_reducible first | exact HB.out | apply below_alloc | apply pw_below_drewN | apply below_drew1) | exact HB.out)) hb); clear HB; have HB := n0_; clear n0_; (try clear hb); (try clear hb2); (try clear hk); (try clear hi)))
     repeat (go_quiet (first | (go_at_call 9; (with_reducible refine (quoinref20_Great.calls k _ _ l0 false _ ?side1 ?side2 A7.out).mono ?_); (case side1 => repeat (first | exact (Kd.C_below HR0.out HB.out) | (with_reducible refine Kd.C_alloc ?_ _) | (with_reducible refine Kd.C_drewN ?_ _) | (with_reducible refine Kd.C_drew ?_))); (case side2 => exact HC0.out); rintro e w12 ⟨rfl, hb⟩; have n0_ := Aside0.mk (below_step (by repeat (first | (with_reducible first | exact HB.out | apply below_alloc | apply pw_below_drewN | apply below_drew1) | exact HB.out)) hb); clear HB; have HB := n0_; clear n0_; (try clear hb); (try clear hb2); (try clear hk); (try clear hi))); try go_wp2_with (first | (go_at_call 9; (with_reducible refine (quoinref20_Great.calls k _ _ l0 false _ ?side1 ?side2 A7.out).mono ?_); (case side1 => repeat (first | exact (Kd.C_below HR0.out HB.out) | (with_reducible refine Kd.C_alloc ?_ _) | (with_reducible refine Kd.C_drewN ?_ _) | (with_reducible refine Kd.C_drew ?_))); (case side2 => exact HC0.out); rintro e w12 ⟨rfl, hb⟩; have n0_ := Aside0.mk (below_step (by repeat (first | (with_reducible first | exact HB.out | apply below_alloc | apply pw_below_drewN | apply below_drew1) | exact HB.out)) hb); clear HB; have HB := n0_; clear n0_; (try clear hb); (try clear hb2); (try clear hk); (try clear hi))))
     go_meet
     case rel => exact ⟨_, (decide (a1 ≥ (l0.length : Int))), (by first | rfl | (simp; done) | (simp [*]; done)), H', ⟨by first | omega | exact Nat.le_refl _⟩, ⟨by repeat (first | (with_reducible first | exact HB.out | apply below_alloc | apply pw_below_drewN | apply below_drew1) | exact HB.out)⟩⟩
  case rest =>
   clear HC5
   try clear c1
   try clear p2
   try clear c4
   try clear c8
   try clear c10
   try clear c10b0
   obtain ⟨kq, x28_4, rfl, HA, HJ4, HB⟩ := hcut
   cases kq with
   | zero => exact absurd HA.out (by simp [quoinlaw21_LabelsReach.j0])
   | succ kj4 =>
    have H := HA.out
    clear HA
    simp only [quoinlaw21_LabelsReach.j0] at H
    by_cases c13 : x28_4 = true
    ·
     subst c13
     have H1 : (some true) = some r := by rw [if_pos rfl] at H; exact H
     clear H
     have H := H1
     clear H1
     obtain rfl := Option.some.inj H
     go_wp2
     repeat (go_quiet (fail); try go_wp2)
     go_ret
     exact ⟨by first | rfl | (simp [errW_none, errW_some] <;> rfl) | (simp [*, errW_none, errW_some] <;> rfl), by repeat (first | (with_reducible first | exact HB.out | apply below_alloc | apply pw_below_drewN | apply below_drew1) | exact HB.out)⟩
    ·
     replace c13 := Bool.eq_false_iff.mpr c13
     (try subst c13)
     have H1 : ((labels_Rename.f l0).bind fun bt195 => (if 0 ≤ a1 then (if a1 < (l0.length : Int) then ((quoinref21_Asks.f kj4 ((rd_T31 l0 a1).f3)).bind fun bt201 => (if bt195.2.2 = 0 then (if bt201.2.2 = true then (quoinlaw21_LabelsReach.j1 kj4 l0 a1 true bt195.1 bt201.1 bt201.2.1 (((rd_T31 l0 a1).f0) != 1)) else (quoinlaw21_LabelsReach.j1 kj4 l0 a1 true bt195.1 bt201.1 bt201.2.1 true)) else (quoinlaw21_LabelsReach.j1 kj4 l0 a1 true bt195.1 bt201.1 bt201.2.1 true))) else (none)) else (none))) = some r := by first | (rw [if_neg (show ¬ (false = true) by decide)] at H; exact H) | exact absurd c13 (by decide)
     clear H
     have H := H1
     clear H1
     replace H := Option.bind_eq_some_iff.mp H
     obtain ⟨⟨t195, t196, t197⟩, A140, H⟩ := H
     replace H : (if 0 ≤ a1 then (if a1 < (l0.length : Int) then ((quoinref21_Asks.f kj4 ((rd_T31 l0 a1).f3)).bind fun bt201 => (if t197 = 0 then (if bt201.2.2 = true then (quoinlaw21_LabelsReach.j1 kj4 l0 a1 true t195 bt201.1 bt201.2.1 (((rd_T31 l0 a1).f0) != 1)) else (quoinlaw21_LabelsReach.j1 kj4 l0 a1 true t195 bt201.1 bt201.2.1 true)) else (quoinlaw21_LabelsReach.j1 kj4 l0 a1 true t195 bt201.1 bt201.2.1 true))) else (none)) else (none)) = some r := H
     have A14 := Aside0.mk A140
     clear A140
     by_cases c15 : 0 ≤ a1
     ·
      rw [if_pos c15] at H
      have c15b0 : decide (0 ≤ a1) = true := decide_eq_true c15
      clear c15
      by_cases c16 : a1 < (l0.length : Int)
      ·
       rw [if_pos c16] at H
       have c16b0 : decide (a1 < (l0.length : Int)) = true := decide_eq_true c16
       clear c16
       replace H := Option.bind_eq_some_iff.mp H
       obtain ⟨⟨t201, t202, t203⟩, A170, H⟩ := H
       replace H : (if t197 = 0 then (if t203 = true then (quoinlaw21_LabelsReach.j1 kj4 l0 a1 true t195 t201 t202 (((rd_T31 l0 a1).f0) != 1)) else (quoinlaw21_LabelsReach.j1 kj4 l0 a1 true t195 t201 t202 true)) else (quoinlaw21_LabelsReach.j1 kj4 l0 a1 true t195 t201 t202 true)) = some r := H
       have A17 := Aside0.mk A170
       clear A170
       have HC18 := Aside0.mk H
       clear H
       go_upto_region 8 with (first | (go_at_call 10; (with_reducible refine (labels_Rename.calls _ _ l0 t195 t196 t197 _ ?side1 ?side2 ?side3 A14.out).mono ?_); (case side1 => repeat (first | exact (Kd.C_below HR0.out HB.out) | (with_reducible refine Kd.C_alloc ?_ _) | (with_reducible refine Kd.C_drewN ?_ _) | (with_reducible refine Kd.C_drew ?_))); (case side2 => exact HC0.out); (case side3 => exact Lib.tabBelow_of_tabIs HT.out _ (by repeat (first | (with_reducible first | exact HB.out | apply below_alloc | apply pw_below_drewN | apply below_drew1) | exact HB.out))); rintro e w19 ⟨v198, rfl, ho0, hb⟩; have n0_ := Aside0.mk (Kd.S_lower ho0 (below_size (by repeat (first | (with_reducible first | exact HB.out | apply below_alloc | apply pw_below_drewN | apply below_drew1) | exact HB.out)))); have n1_ := Aside0.mk (below_step (by repeat (first | (with_reducible first | exact HB.out | apply below_alloc | apply pw_below_drewN | apply below_drew1) | exact HB.out)) hb); clear HB; have HO199 := n0_; have HB := n1_; clear n0_ n1_; (try clear hb); (try clear hb2); (try clear hk); (try clear hi); (try clear ho0); have p200 : 0 ≤ (a1 : Int) := of_decide_eq_true (by first | (with_reducible assumption) | assumption); have q200 : a1 < (l0.length : Int) := of_decide_eq_true (by first | (with_reducible assumption) | assumption); obtain ⟨ad200, A200_1, c200_1, e200, hx200_0, hx200_1, hx200_2, hx200_3, hx200_4, hx200_5, hx200_6, hl200_1, hi200_1⟩ := at_T31 HR0.out a1 p200 q200; cases e200; replace hx200_0 := (HB.out.cell (World.block_lt_of_cell? w _ hx200_0)).trans hx200_0; replace hx200_1 := (HB.out.cell (World.block_lt_of_cell? w _ hx200_1)).trans hx200_1; replace hx200_2 := (HB.out.cell (World.block_lt_of_cell? w _ hx200_2)).trans hx200_2; replace hx200_3 := (HB.out.cell (World.block_lt_of_cell? w _ hx200_3)).trans hx200_3; replace hx200_4 := (HB.out.cell (World.block_lt_of_cell? w _ hx200_4)).trans hx200_4; replace hx200_5 := (HB.out.cell (World.block_lt_of_cell? w _ hx200_5)).trans hx200_5; replace hx200_6 := (HB.out.cell (World.block_lt_of_cell? w _ hx200_6)).trans hx200_6; have HR200_1 := Aside0.mk hi200_1; have HC200_1 := Aside0.mk hl200_1; clear hi200_1 hl200_1; replace p200 := eq_true p200; replace q200 := eq_true q200) | (go_at_call 12; (with_reducible refine (quoinref21_Asks.calls kj4 ((rd_T31 l0 a1).f3) t201 t202 t203 _ A17.out).mono ?_); rintro e w' ⟨rfl, ⟨nd, rfl⟩⟩; (try first | exact ⟨rfl, _, World.drewN_drewN _ _ _⟩ | exact ⟨rfl, _, Eq.trans (World.drewN_drewN _ _ _) (congrArg (World.drewN _) (Nat.add_assoc _ _ _))⟩)))
       repeat (go_quiet (first | (go_at_call 10; (with_reducible refine (labels_Rename.calls _ _ l0 t195 t196 t197 _ ?side1 ?side2 ?side3 A14.out).mono ?_); (case side1 => repeat (first | exact (Kd.C_below HR0.out HB.out) | (with_reducible refine Kd.C_alloc ?_ _) | (with_reducible refine Kd.C_drewN ?_ _) | (with_reducible refine Kd.C_drew ?_))); (case side2 => exact HC0.out); (case side3 => exact Lib.tabBelow_of_tabIs HT.out _ (by repeat (first | (with_reducible first | exact HB.out | apply below_alloc | apply pw_below_drewN | apply below_drew1) | exact HB.out))); rintro e w19 ⟨v198, rfl, ho0, hb⟩; have n0_ := Aside0.mk (Kd.S_lower ho0 (below_size (by repeat (first | (with_reducible first | exact HB.out | apply below_alloc | apply pw_below_drewN | apply below_drew1) | exact HB.out)))); have n1_ := Aside0.mk (below_step (by repeat (first | (with_reducible first | exact HB.out | apply below_alloc | apply pw_below_drewN | apply below_drew1) | exact HB.out)) hb); clear HB; have HO199 := n0_; have HB := n1_; clear n0_ n1_; (try clear hb); (try clear hb2); (try clear hk); (try clear hi); (try clear ho0); have p200 : 0 ≤ (a1 : Int) := of_decide_eq_true (by first | (with_reducible assumption) | assumption); have q200 : a1 < (l0.length : Int) := of_decide_eq_true (by first | (with_reducible assumption) | assumption); obtain ⟨ad200, A200_1, c200_1, e200, hx200_0, hx200_1, hx200_2, hx200_3, hx200_4, hx200_5, hx200_6, hl200_1, hi200_1⟩ := at_T31 HR0.out a1 p200 q200; cases e200; replace hx200_0 := (HB.out.cell (World.block_lt_of_cell? w _ hx200_0)).trans hx200_0; replace hx200_1 := (HB.out.cell (World.block_lt_of_cell? w _ hx200_1)).trans hx200_1; replace hx200_2 := (HB.out.cell (World.block_lt_of_cell? w _ hx200_2)).trans hx200_2; replace hx200_3 := (HB.out.cell (World.block_lt_of_cell? w _ hx200_3)).trans hx200_3; replace hx200_4 := (HB.out.cell (World.block_lt_of_cell? w _ hx200_4)).trans hx200_4; replace hx200_5 := (HB.out.cell (World.block_lt_of_cell? w _ hx200_5)).trans hx200_5; replace hx200_6 := (HB.out.cell (World.block_lt_of_cell? w _ hx200_6)).trans hx200_6; have HR200_1 := Aside0.mk hi200_1; have HC200_1 := Aside0.mk hl200_1; clear hi200_1 hl200_1; replace p200 := eq_true p200; replace q200 := eq_true q200) | (go_at_call 12; (with_reducible refine (quoinref21_Asks.calls kj4 ((rd_T31 l0 a1).f3) t201 t202 t203 _ A17.out).mono ?_); rintro e w' ⟨rfl, ⟨nd, rfl⟩⟩; (try first | exact ⟨rfl, _, World.drewN_drewN _ _ _⟩ | exact ⟨rfl, _, Eq.trans (World.drewN_drewN _ _ _) (congrArg (World.drewN _) (Nat.add_assoc _ _ _))⟩))); go_upto_region 8 with (first | (go_at_call 10; (with_reducible refine (labels_Rename.calls _ _ l0 t195 t196 t197 _ ?side1 ?side2 ?side3 A14.out).mono ?_); (case side1 => repeat (first | exact (Kd.C_below HR0.out HB.out) | (with_reducible refine Kd.C_alloc ?_ _) | (with_reducible refine Kd.C_drewN ?_ _) | (with_reducible refine Kd.C_drew ?_))); (case side2 => exact HC0.out); (case side3 => exact Lib.tabBelow_of_tabIs HT.out _ (by repeat (first | (with_reducible first | exact HB.out | apply below_alloc | apply pw_below_drewN | apply below_drew1) | exact HB.out))); rintro e w19 ⟨v198, rfl, ho0, hb⟩; have n0_ := Aside0.mk (Kd.S_lower ho0 (below_size (by repeat (first | (with_reducible first | exact HB.out | apply below_alloc | apply pw_below_drewN | apply below_drew1) | exact HB.out)))); have n1_ := Aside0.mk (below_step (by repeat (first | (with_reducible first | exact HB.out | apply below_alloc | apply pw_below_drewN | apply below_drew1) | exact HB.out)) hb); clear HB; have HO199 := n0_; have HB := n1_; clear n0_ n1_; (try clear hb); (try clear hb2); (try clear hk); (try clear hi); (try clear ho0); have p200 : 0 ≤ (a1 : Int) := of_decide_eq_true (by first | (with_reducible assumption) | assumption); have q200 : a1 < (l0.length : Int) := of_decide_eq_true (by first | (with_reducible assumption) | assumption); obtain ⟨ad200, A200_1, c200_1, e200, hx200_0, hx200_1, hx200_2, hx200_3, hx200_4, hx200_5, hx200_6, hl200_1, hi200_1⟩ := at_T31 HR0.out a1 p200 q200; cases e200; replace hx200_0 := (HB.out.cell (World.block_lt_of_cell? w _ hx200_0)).trans hx200_0; replace hx200_1 := (HB.out.cell (World.block_lt_of_cell? w _ hx200_1)).trans hx200_1; replace hx200_2 := (HB.out.cell (World.block_lt_of_cell? w _ hx200_2)).trans hx200_2; replace hx200_3 := (HB.out.cell (World.block_lt_of_cell? w _ hx200_3)).trans hx200_3; replace hx200_4 := (HB.out.cell (World.block_lt_of_cell? w _ hx200_4)).trans hx200_4; replace hx200_5 := (HB.out.cell (World.block_lt_of_cell? w _ hx200_5)).trans hx200_5; replace hx200_6 := (HB.out.cell (World.block_lt_of_cell? w _ hx200_6)).trans hx200_6; have HR200_1 := Aside0.mk hi200_1; have HC200_1 := Aside0.mk hl200_1; clear hi200_1 hl200_1; replace p200 := eq_true p200; replace q200 := eq_true q200) | (go_at_call 12; (with_reducible refine (quoinref21_Asks.calls kj4 ((rd_T31 l0 a1).f3) t201 t202 t203 _ A17.out).mono ?_); rintro e w' ⟨rfl, ⟨nd, rfl⟩⟩; (try first | exact ⟨rfl, _, World.drewN_drewN _ _ _⟩ | exact ⟨rfl, _, Eq.trans (World.drewN_drewN _ _ _) (congrArg (World.drewN _) (Nat.add_assoc _ _ _))⟩))))
       (try simp only [Act.put, List.setIfInBounds_toArray, List.set_cons_zero, List.set_cons_succ])
       go_cut [59] (fun v59 wc => ∃ (kq : Nat) (x59_17 : Bool), v59 = .bool x59_17 ∧ Aside0 (quoinlaw21_LabelsReach.j1 kq l0 a1 true t195 t201 t202 x59_17 = some r) ∧ Aside0 (kq ≤ kj4) ∧ Aside0 (Kd.S k31 31 wc w.heap.size (fun _ => True) v198 t195) ∧ Aside0 (Below w.heap.size w wc))
       case first =>
        have H := HC18.out
        clear HC18
        by_cases c20 : t197 = 0
        ·
         rw [if_pos c20] at H
         have c20b0 : (t197 == 0) = true := beq_iff_eq.mpr c20
         have c20b1 : (t197 != 0) = false := bne_eq_false_iff_eq.mpr c20
         clear c20
         (first | rw [c20b0] | (simp only [i64_w, i32_w]; rw [c20b0]) | skip)
         by_cases c21 : t203 = true
         ·
          subst c21
          have H1 : (quoinlaw21_LabelsReach.j1 kj4 l0 a1 true t195 t201 t202 (((rd_T31 l0 a1).f0) != 1)) = some r := by rw [if_pos rfl] at H; exact H
          clear H
          have H := H1
          clear H1
          have H' := Aside0.mk H
          clear H
          have p204 : 0 ≤ (a1 : Int) := of_decide_eq_true (by first | (with_reducible assumption) | assumption)
          have q204 : a1 < (l0.length : Int) := of_decide_eq_true (by first | (with_reducible assumption) | assumption)
          obtain ⟨ad204, A204_1, c204_1, e204, hx204_0, hx204_1, hx204_2, hx204_3, hx204_4, hx204_5, hx204_6, hl204_1, hi204_1⟩ := at_T31 HR0.out a1 p204 q204
          obtain rfl : ad200 = ad204 := (by injection e204)
          replace hx204_0 := (HB.out.cell (World.block_lt_of_cell? w _ hx204_0)).trans hx204_0
          replace hx204_1 := (HB.out.cell (World.block_lt_of_cell? w _ hx204_1)).trans hx204_1
          replace hx204_2 := (HB.out.cell (World.block_lt_of_cell? w _ hx204_2)).trans hx204_2
          replace hx204_3 := (HB.out.cell (World.block_lt_of_cell? w _ hx204_3)).trans hx204_3
          replace hx204_4 := (HB.out.cell (World.block_lt_of_cell? w _ hx204_4)).trans hx204_4
          replace hx204_5 := (HB.out.cell (World.block_lt_of_cell? w _ hx204_5)).trans hx204_5
          replace hx204_6 := (HB.out.cell (World.block_lt_of_cell? w _ hx204_6)).trans hx204_6
          have HR204_1 := Aside0.mk hi204_1
          have HC204_1 := Aside0.mk hl204_1
          clear hi204_1 hl204_1
          replace p204 := eq_true p204
          replace q204 := eq_true q204
          go_wp2
          repeat (go_quiet (fail); try go_wp2)
          go_meet
          case rel => exact ⟨_, ((((rd_T31 l0 a1).f0) != 1)), (by first | rfl | (simp; done) | (simp [*]; done)), H', ⟨by have := HJ4.out; first | omega | exact Nat.le_refl _⟩, ⟨by (with_reducible repeat (first | apply Kd.S_alloc | apply Kd.S_drewN | apply Kd.S_drew)); exact HO199.out⟩, ⟨by repeat (first | (with_reducible first | exact HB.out | apply below_alloc | apply pw_below_drewN | apply below_drew1) | exact HB.out)⟩⟩
         ·
          replace c21 := Bool.eq_false_iff.mpr c21
          (try subst c21)
          have H1 : (quoinlaw21_LabelsReach.j1 kj4 l0 a1 true t195 t201 t202 true) = some r := by first | (rw [if_neg (show ¬ (false = true) by decide)] at H; exact H) | exact absurd c21 (by decide)
          clear H
          have H := H1
          clear H1
          have H' := Aside0.mk H
          clear H
          go_wp2
          repeat (go_quiet (fail); try go_wp2)
          go_meet
          case rel => exact ⟨_, (true), (by first | rfl | (simp; done) | (simp [*]; done)), H', ⟨by have := HJ4.out; first | omega | exact Nat.le_refl _⟩, ⟨by (with_reducible repeat (first | apply Kd.S_alloc | apply Kd.S_drewN | apply Kd.S_drew)); exact HO199.out⟩, ⟨by repeat (first | (with_reducible first | exact HB.out | apply below_alloc | apply pw_below_drewN | apply below_drew1) | exact HB.out)⟩⟩
        ·
         rw [if_neg c20] at H
         have c20b0 : (t197 == 0) = false := beq_eq_false_iff_ne.mpr c20
         have c20b1 : (t197 != 0) = true := bne_iff_ne.mpr c20
         (first | rw [c20b0] | (simp only [i64_w, i32_w]; rw [c20b0]) | skip)
         have H' := Aside0.mk H
         clear H
         go_wp2
         repeat (go_quiet (fail); try go_wp2)
         go_meet
         case rel => exact ⟨_, (true), (by first | rfl | (simp; done) | (simp [*]; done)), H', ⟨by have := HJ4.out; first | omega | exact Nat.le_refl _⟩, ⟨by (with_reducible repeat (first | apply Kd.S_alloc | apply Kd.S_drewN | apply Kd.S_drew)); exact HO199.out⟩, ⟨by repeat (first | (with_reducible first | exact HB.out | apply below_alloc | apply pw_below_drewN | apply below_drew1) | exact HB.out)⟩⟩
       case rest =>
        clear HC18
        try clear c1
        try clear c2
        try clear p2
        try clear q2
        try clear hx2
        try clear c4
        try clear c8
        try clear c10
        try clear c10b0
        try clear c13
        try clear c15
        try clear c15b0
        try clear c16
        try clear c16b0
        try clear c20
        try clear c20b0
        try clear c20b1
        try clear p20
        try clear q20
        try clear hx20
        try clear c21
        try clear hx200_0
        try clear hx200_1
        try clear hx200_2
        try clear hx200_3
        try clear hx200_4
        try clear hx200_5
        try clear hx200_6
        try clear hx204_0
        try clear hx204_1
        try clear hx204_2
        try clear hx204_3
        try clear hx204_4
        try clear hx204_5
        try clear hx204_6
        try clear p2
        try clear p200
        try clear p204
        try clear q200
        try clear q204
        obtain ⟨kq, x59_17, rfl, HA, HJ17, HO_6, HB⟩ := hcut
        cases kq with
        | zero => exact absurd HA.out (by simp [quoinlaw21_LabelsReach.j1])
        | succ kj17 =>
         have H := HA.out
         clear HA
         simp only [quoinlaw21_LabelsReach.j1] at H
         by_cases c22 : x59_17 = true
         ·
          subst c22
          have H1 : (some true) = some r := by rw [if_pos rfl] at H; exact H
          clear H
          have H := H1
          clear H1
          obtain rfl := Option.some.inj H
          go_wp2
          repeat (go_quiet (fail); try go_wp2)
          go_ret
          exact ⟨by first | rfl | (simp [errW_none, errW_some] <;> rfl) | (simp [*, errW_none, errW_some] <;> rfl), by repeat (first | (with_reducible first | exact HB.out | apply below_alloc | apply pw_below_drewN | apply below_drew1) | exact HB.out)⟩
         ·
          replace c22 := Bool.eq_false_iff.mpr c22
          (try subst c22)
          have H1 : (if t202 = true then (quoinlaw21_LabelsReach.j2 kj17 l0 a1 true t195 t201 (-1)) else (quoinlaw21_LabelsReach.j2 kj17 l0 a1 true t195 t201 1)) = some r := by first | (rw [if_neg (show ¬ (false = true) by decide)] at H; exact H) | exact absurd c22 (by decide)
          clear H
          have H := H1
          clear H1
          have HC23 := Aside0.mk H
          clear H
          go_upto_if 61 with (fail)
          repeat (go_quiet (fail); go_upto_if 61 with (fail))
          go_cut [12] (fun v12 wc => ∃ (kq : Nat) (x12_22 : Int), v12 = .int .i64 x12_22 ∧ Aside0 (quoinlaw21_LabelsReach.j2 kq l0 a1 true t195 t201 x12_22 = some r) ∧ Aside0 (kq ≤ kj17) ∧ Aside0 (Kd.S k31 31 wc w.heap.size (fun _ => True) v198 t195) ∧ Aside0 (Below w.heap.size w wc))
          case first =>
           have H := HC23.out
           clear HC23
           by_cases c24 : t202 = true
           ·
            subst c24
            have H1 : (quoinlaw21_LabelsReach.j2 kj17 l0 a1 true t195 t201 (-1)) = some r := by rw [if_pos rfl] at H; exact H
            clear H
            have H := H1
            clear H1
            have H' := Aside0.mk H
            clear H
            go_wp2
            repeat (go_quiet (fail); try go_wp2)
            go_meet
            case rel => exact ⟨_, ((-1)), (by first | rfl | (simp; done) | (simp [*]; done)), H', ⟨by have := HJ4.out; have := HJ17.out; first | omega | exact Nat.le_refl _⟩, ⟨by (with_reducible repeat (first | apply Kd.S_alloc | apply Kd.S_drewN | apply Kd.S_drew)); exact HO_6.out⟩, ⟨by repeat (first | (with_reducible first | exact HB.out | apply below_alloc | apply pw_below_drewN | apply below_drew1) | exact HB.out)⟩⟩
           ·
            replace c24 := Bool.eq_false_iff.mpr c24
            (try subst c24)
            have H1 : (quoinlaw21_LabelsReach.j2 kj17 l0 a1 true t195 t201 1) = some r := by first | (rw [if_neg (show ¬ (false = true) by decide)] at H; exact H) | exact absurd c24 (by decide)
            clear H
            have H := H1
            clear H1
            have H' := Aside0.mk H
            clear H
            go_wp2
            repeat (go_quiet (fail); try go_wp2)
            go_meet
            case rel => exact ⟨_, (1), (by first | rfl | (simp; done) | (simp [*]; done)), H', ⟨by have := HJ4.out; have := HJ17.out; first | omega | exact Nat.le_refl _⟩, ⟨by (with_reducible repeat (first | apply Kd.S_alloc | apply Kd.S_drewN | apply Kd.S_drew)); exact HO_6.out⟩, ⟨by repeat (first | (with_reducible first | exact HB.out | apply below_alloc | apply pw_below_drewN | apply below_drew1) | exact HB.out)⟩⟩
          case rest =>
           clear HC23
           try clear c1
           try clear c2
           try clear p2
           try clear q2
           try clear hx2
           try clear c4
           try clear c8
           try clear c10
           try clear c10b0
           try clear c13
           try clear c15
           try clear c15b0
           try clear c16
           try clear c16b0
           try clear c20
           try clear c20b0
           try clear c20b1
           try clear p20
           try clear q20
           try clear hx20
           try clear c21
           try clear c22
           try clear c24
           try clear hx200_0
           try clear hx200_1
           try clear hx200_2
           try clear hx200_3
           try clear hx200_4
           try clear hx200_5
           try clear hx200_6
           try clear hx204_0
           try clear hx204_1
           try clear hx204_2
           try clear hx204_3
           try clear hx204_4
           try clear hx204_5
           try clear hx204_6
           try clear p2
           try clear p20
           try clear p200
           try clear p204
           try clear q2
           try clear q20
           try clear q200
           try clear q204
           obtain ⟨kq, x12_22, rfl, HA, HJ22, HO_6, HB⟩ := hcut
           cases kq with
           | zero => exact absurd HA.out (by simp [quoinlaw21_LabelsReach.j2])
           | succ kj22 =>
            have H := HA.out
            clear HA
            simp only [quoinlaw21_LabelsReach.j2] at H
            have H' := Aside0.mk H
            clear H
            go_wp2
            repeat (go_quiet (fail); try go_wp2)
            go_loopg [13] kj22 (fun kq v13 w' => ∃ (x13_4 : Int), v13 = .int .i64 x13_4 ∧ Aside0 (quoinlaw21_LabelsReach.l0 kq l0 a1 true t195 t201 x12_22 x13_4 = some r) ∧ Aside0 (kq ≤ kj22) ∧ Aside0 (Kd.S k31 31 w' w.heap.size (fun _ => True) v198 t195) ∧ Aside0 (Below w.heap.size w w'))
            case atStart => exact ⟨(wrap64 (a1 + x12_22)), (by first | rfl | (simp; done) | (simp [*]; done)), H', ⟨Nat.le_refl _⟩, ⟨by (with_reducible repeat (first | apply Kd.S_alloc | apply Kd.S_drewN | apply Kd.S_drew)); exact HO_6.out⟩, ⟨by repeat (first | (with_reducible first | exact HB.out | apply below_alloc | apply pw_below_drewN | apply below_drew1) | exact HB.out)⟩⟩
            case round =>
             clear H'
             try clear c1
             try clear c2
             try clear p2
             try clear q2
             try clear hx2
             try clear c4
             try clear p6
             try clear c8
             try clear c10
             try clear c10b0
             try clear c13
             try clear c15
             try clear c15b0
             try clear c16
             try clear c16b0
             try clear c20
             try clear c20b0
             try clear c20b1
             try clear p20
             try clear q20
             try clear hx20
             try clear c21
             try clear c22
             try clear c24
             try clear hx200_0
             try clear hx200_1
             try clear hx200_2
             try clear hx200_3
             try clear hx200_4
             try clear hx200_5
             try clear hx200_6
             try clear hx204_0
             try clear hx204_1
             try clear hx204_2
             try clear hx204_3
             try clear hx204_4
             try clear hx204_5
             try clear hx204_6
             try clear p2
             try clear p20
             try clear p200
             try clear p204
             try clear q2
             try clear q20
             try clear q200
             try clear q204
             obtain ⟨x13_4, rfl, HA, HK4, HO_6, HB⟩ := hrel
             cases gk with
             | zero => exact absurd HA.out (by simp [quoinlaw21_LabelsReach.l0])
             | succ k4 =>
              have H := HA.out
              clear HA
              simp only [quoinlaw21_LabelsReach.l0] at H
              have HC25 := Aside0.mk H
              clear H
              go_upto_region 14 with (fail)
              repeat (go_quiet (fail); go_upto_region 14 with (fail))
              go_cut [72] (fun v72 wc => ∃ (kq : Nat) (x72_24 : Bool), v72 = .bool x72_24 ∧ Aside0 (quoinlaw21_LabelsReach.j4 kq l0 a1 true t195 t201 x12_22 x13_4 x72_24 = some r) ∧ Aside0 (kq ≤ k4) ∧ Aside0 (Kd.S k31 31 wc w.heap.size (fun _ => True) v198 t195) ∧ Aside0 (Below w.heap.size w wc))
              case first =>
               have H := HC25.out
               clear HC25
               by_cases c26 : x13_4 ≥ 0
               ·
                rw [if_pos c26] at H
                have c26b0 : decide (0 ≤ x13_4) = true := decide_eq_true c26
                clear c26
                (first | rw [c26b0] | (simp only [i64_w, i32_w]; rw [c26b0]) | skip)
                have H' := Aside0.mk H
                clear H
                go_wp2
                repeat (go_quiet (fail); try go_wp2)
                go_meet
                case rel => exact ⟨_, (decide (x13_4 < (l0.length : Int))), (by first | rfl | (simp; done) | (simp [*]; done)), H', ⟨by have := HJ4.out; have := HJ17.out; have := HJ22.out; have := HK4.out; first | omega | exact Nat.le_refl _⟩, ⟨by (with_reducible repeat (first | apply Kd.S_alloc | apply Kd.S_drewN | apply Kd.S_drew)); exact HO_6.out⟩, ⟨by repeat (first | (with_reducible first | exact HB.out | apply below_alloc | apply pw_below_drewN | apply below_drew1) | exact HB.out)⟩⟩
               ·
                rw [if_neg c26] at H
                exact absurd H (by simp)
              case rest =>
               clear HC25
               try clear c1
               try clear c2
               try clear p2
               try clear q2
               try clear hx2
               try clear c4
               try clear p6
               try clear c8
               try clear c10
               try clear c10b0
               try clear c13
               try clear c15
               try clear c15b0
               try clear c16
               try clear c16b0
               try clear c20
               try clear c20b0
               try clear c20b1
               try clear p20
               try clear q20
               try clear hx20
               try clear c21
               try clear c22
               try clear c24
               try clear c26
               try clear c26b0
               try clear hx200_0
               try clear hx200_1
               try clear hx200_2
               try clear hx200_3
               try clear hx200_4
               try clear hx200_5
               try clear hx200_6
               try clear hx204_0
               try clear hx204_1
               try clear hx204_2
               try clear hx204_3
               try clear hx204_4
               try clear hx204_5
               try clear hx204_6
               try clear p2
               try clear p20
               try clear p200
               try clear p204
               try clear p6
               try clear q2
               try clear q20
               try clear q200
               try clear q204
               obtain ⟨kq, x72_24, rfl, HA, HJ24, HO_6, HB⟩ := hcut
               cases kq with
               | zero => exact absurd HA.out (by simp [quoinlaw21_LabelsReach.j4])
               | succ kj24 =>
                have H := HA.out
                clear HA
                simp only [quoinlaw21_LabelsReach.j4] at H
                by_cases c27 : x72_24 = true
                ·
                 subst c27
                 have H1 : (if 0 ≤ x13_4 then (if x13_4 < (l0.length : Int) then (if ((rd_T31 l0 x13_4).f0) = 6 then (if ((rd_T31 l0 x13_4).f3).toList = t201.toList then (if true = true then (if x13_4 < (t195.length : Int) then (if 0 ≤ a1 then (if a1 < (t195.length : Int) then (some (((rd_T31 t195 x13_4).f3).toList == ((rd_T31 t195 a1).f3).toList)) else (none)) else (none)) else (none)) else (none)) else (quoinlaw21_LabelsReach.l0 kj24 l0 a1 true t195 t201 x12_22 (wrap64 (x13_4 + x12_22)))) else (quoinlaw21_LabelsReach.l0 kj24 l0 a1 true t195 t201 x12_22 (wrap64 (x13_4 + x12_22)))) else (none)) else (none)) = some r := by rw [if_pos rfl] at H; exact H
                 clear H
                 have H := H1
                 clear H1
                 by_cases c28 : 0 ≤ x13_4
                 ·
                  rw [if_pos c28] at H
                  have c28b0 : decide (0 ≤ x13_4) = true := decide_eq_true c28
                  clear c28
                  by_cases c29 : x13_4 < (l0.length : Int)
                  ·
                   rw [if_pos c29] at H
                   have c29b0 : decide (x13_4 < (l0.length : Int)) = true := decide_eq_true c29
                   clear c29
                   by_cases c30 : ((rd_T31 l0 x13_4).f0) = 6
                   ·
                    rw [if_pos c30] at H
                    have c30b0 : (((rd_T31 l0 x13_4).f0) == 6) = true := beq_iff_eq.mpr c30
                    have c30b1 : (((rd_T31 l0 x13_4).f0) != 6) = false := bne_eq_false_iff_eq.mpr c30
                    clear c30
                    by_cases c31 : ((rd_T31 l0 x13_4).f3).toList = t201.toList
                    ·
                     rw [if_pos c31] at H
                     have c31b0 : (((rd_T31 l0 x13_4).f3).toList == t201.toList) = true := beq_iff_eq.mpr c31
                     have c31b1 : (((rd_T31 l0 x13_4).f3).toList != t201.toList) = false := bne_eq_false_iff_eq.mpr c31
                     clear c31
                     by_cases c32 : true = true
                     ·
                      (try subst c32)
                      have H1 : (if x13_4 < (t195.length : Int) then (if 0 ≤ a1 then (if a1 < (t195.length : Int) then (some (((rd_T31 t195 x13_4).f3).toList == ((rd_T31 t195 a1).f3).toList)) else (none)) else (none)) else (none)) = some r := by rw [if_pos rfl] at H; exact H
                      clear H
                      have H := H1
                      clear H1
                      by_cases c33 : x13_4 < (t195.length : Int)
                      ·
                       rw [if_pos c33] at H
                       have c33b0 : decide (x13_4 < (t195.length : Int)) = true := decide_eq_true c33
                       clear c33
                       by_cases c34 : 0 ≤ a1
                       ·
                        rw [if_pos c34] at H
                        have c34b0 : decide (0 ≤ a1) = true := decide_eq_true c34
                        clear c34
                        by_cases c35 : a1 < (t195.length : Int)
                        ·
                         rw [if_pos c35] at H
                         have c35b0 : decide (a1 < (t195.length : Int)) = true := decide_eq_true c35
                         clear c35
                         obtain rfl := Option.some.inj H
                         have p205 : 0 ≤ (x13_4 : Int) := of_decide_eq_true (by first | (with_reducible assumption) | assumption)
                         have q205 : x13_4 < (l0.length : Int) := of_decide_eq_true (by first | (with_reducible assumption) | assumption)
                         obtain ⟨ad205, A205_1, c205_1, e205, hx205_0, hx205_1, hx205_2, hx205_3, hx205_4, hx205_5, hx205_6, hl205_1, hi205_1⟩ := at_T31 HR0.out x13_4 p205 q205
                         obtain rfl : ad200 = ad205 := (by injection e205)
                         replace hx205_0 := (HB.out.cell (World.block_lt_of_cell? w _ hx205_0)).trans hx205_0
                         replace hx205_1 := (HB.out.cell (World.block_lt_of_cell? w _ hx205_1)).trans hx205_1
                         replace hx205_2 := (HB.out.cell (World.block_lt_of_cell? w _ hx205_2)).trans hx205_2
                         replace hx205_3 := (HB.out.cell (World.block_lt_of_cell? w _ hx205_3)).trans hx205_3
                         replace hx205_4 := (HB.out.cell (World.block_lt_of_cell? w _ hx205_4)).trans hx205_4
                         replace hx205_5 := (HB.out.cell (World.block_lt_of_cell? w _ hx205_5)).trans hx205_5
                         replace hx205_6 := (HB.out.cell (World.block_lt_of_cell? w _ hx205_6)).trans hx205_6
                         have HR205_1 := Aside0.mk hi205_1
                         have HC205_1 := Aside0.mk hl205_1
                         clear hi205_1 hl205_1
                         replace p205 := eq_true p205
                         replace q205 := eq_true q205
                         have p206 : 0 ≤ (x13_4 : Int) := of_decide_eq_true (by first | (with_reducible assumption) | assumption)
                         have q206 : x13_4 < (l0.length : Int) := of_decide_eq_true (by first | (with_reducible assumption) | assumption)
                         obtain ⟨ad206, A206_1, c206_1, e206, hx206_0, hx206_1, hx206_2, hx206_3, hx206_4, hx206_5, hx206_6, hl206_1, hi206_1⟩ := at_T31 HR0.out x13_4 p206 q206
                         obtain rfl : ad200 = ad206 := (by injection e206)
                         replace hx206_0 := (HB.out.cell (World.block_lt_of_cell? w _ hx206_0)).trans hx206_0
                         replace hx206_1 := (HB.out.cell (World.block_lt_of_cell? w _ hx206_1)).trans hx206_1
                         replace hx206_2 := (HB.out.cell (World.block_lt_of_cell? w _ hx206_2)).trans hx206_2
                         replace hx206_3 := (HB.out.cell (World.block_lt_of_cell? w _ hx206_3)).trans hx206_3
                         replace hx206_4 := (HB.out.cell (World.block_lt_of_cell? w _ hx206_4)).trans hx206_4
                         replace hx206_5 := (HB.out.cell (World.block_lt_of_cell? w _ hx206_5)).trans hx206_5
                         replace hx206_6 := (HB.out.cell (World.block_lt_of_cell? w _ hx206_6)).trans hx206_6
                         have HR206_1 := Aside0.mk hi206_1
                         have HC206_1 := Aside0.mk hl206_1
                         clear hi206_1 hl206_1
                         replace p206 := eq_true p206
                         replace q206 := eq_true q206
                         have ea_ := Option.some.inj (hx205_1.symm.trans hx206_1)
                         injection ea_ with ea_ en_ ec_
                         subst ea_
                         subst ec_
                         clear en_
                         obtain ⟨Ao36, co36, eo36⟩ := Kd.S_slice HO_6.out
                         subst eo36
                         have p207 : 0 ≤ (x13_4 : Int) := of_decide_eq_true (by first | (with_reducible assumption) | assumption)
                         have q207 : x13_4 < (t195.length : Int) := of_decide_eq_true (by first | (with_reducible assumption) | assumption)
                         obtain ⟨ad207, A207_1, c207_1, e207, hx207_0, hx207_1, hx207_2, hx207_3, hx207_4, hx207_5, hx207_6, hl207_1, hi207_1⟩ := at_T31 (Kd.S_reads' HO_6.out).2.2 x13_4 p207 q207
                         cases e207
                         obtain ⟨ce207, hce207, hMe207, hcc207⟩ := Kd.S_get HO_6.out z31 x13_4 p207 (by first | exact q207 | exact of_decide_eq_true (by first | (with_reducible assumption) | assumption) | (have e_ := (Kd.S_reads' HO_6.out).1; omega))
                         obtain ⟨ve207_1, rfl, ge207_1⟩ := k31_openM hMe207
                         have hv207_1 := hcc207 1 _ rfl
                         rw [add_field _ _ 1 (by omega)] at hv207_1
                         replace hv207_1 := Option.some.inj (hv207_1.symm.trans hx207_1)
                         rw [hv207_1] at ge207_1
                         have HL207_1 := Aside0.mk (show Kd.R (Kd.int .u8) 5 _ _ _ _ ((rd_T31 t195 x13_4).f1) from ge207_1)
                         clear hv207_1 ge207_1
                         clear hcc207 hce207
                         have HR207_1 := Aside0.mk hi207_1
                         have HC207_1 := Aside0.mk hl207_1
                         clear hi207_1 hl207_1
                         replace p207 := eq_true p207
                         replace q207 := eq_true q207
                         have p208 : 0 ≤ (a1 : Int) := of_decide_eq_true (by first | (with_reducible assumption) | assumption)
                         have q208 : a1 < (t195.length : Int) := of_decide_eq_true (by first | (with_reducible assumption) | assumption)
                         obtain ⟨ad208, A208_1, c208_1, e208, hx208_0, hx208_1, hx208_2, hx208_3, hx208_4, hx208_5, hx208_6, hl208_1, hi208_1⟩ := at_T31 (Kd.S_reads' HO_6.out).2.2 a1 p208 q208
                         obtain rfl : ad207 = ad208 := (by injection e208)
                         obtain ⟨ce208, hce208, hMe208, hcc208⟩ := Kd.S_get HO_6.out z31 a1 p208 (by first | exact q208 | exact of_decide_eq_true (by first | (with_reducible assumption) | assumption) | (have e_ := (Kd.S_reads' HO_6.out).1; omega))
                         obtain ⟨ve208_1, rfl, ge208_1⟩ := k31_openM hMe208
                         have hv208_1 := hcc208 1 _ rfl
                         rw [add_field _ _ 1 (by omega)] at hv208_1
                         replace hv208_1 := Option.some.inj (hv208_1.symm.trans hx208_1)
                         rw [hv208_1] at ge208_1
                         have HL208_1 := Aside0.mk (show Kd.R (Kd.int .u8) 5 _ _ _ _ ((rd_T31 t195 a1).f1) from ge208_1)
                         clear hv208_1 ge208_1
                         clear hcc208 hce208
                         have HR208_1 := Aside0.mk hi208_1
                         have HC208_1 := Aside0.mk hl208_1
                         clear hi208_1 hl208_1
                         replace p208 := eq_true p208
                         replace q208 := eq_true q208
                         go_wp2
                         repeat (go_quiet (fail); try go_wp2)
                         go_ret
                         exact ⟨by first | rfl | (simp [errW_none, errW_some] <;> rfl) | (simp [*, errW_none, errW_some] <;> rfl), by repeat (first | (with_reducible first | exact HB.out | apply below_alloc | apply pw_below_drewN | apply below_drew1) | exact HB.out)⟩
                        ·
                         rw [if_neg c35] at H
                         exact absurd H (by simp)
                       ·
                        rw [if_neg c34] at H
                        exact absurd H (by simp)
                      ·
                       rw [if_neg c33] at H
                       exact absurd H (by simp)
                     ·
                      replace c32 := Bool.eq_false_iff.mpr c32
                      (try subst c32)
                      have H1 : (none) = some r := by first | (rw [if_neg (show ¬ (false = true) by decide)] at H; exact H) | exact absurd c32 (by decide)
                      clear H
                      have H := H1
                      clear H1
                      exact absurd H (by simp)
                    ·
                     rw [if_neg c31] at H
                     have c31b0 : (((rd_T31 l0 x13_4).f3).toList == t201.toList) = false := beq_eq_false_iff_ne.mpr c31
                     have c31b1 : (((rd_T31 l0 x13_4).f3).toList != t201.toList) = true := bne_iff_ne.mpr c31
                     have H' := Aside0.mk H
                     clear H
                     have p205 : 0 ≤ (x13_4 : Int) := of_decide_eq_true (by first | (with_reducible assumption) | assumption)
                     have q205 : x13_4 < (l0.length : Int) := of_decide_eq_true (by first | (with_reducible assumption) | assumption)
                     obtain ⟨ad205, A205_1, c205_1, e205, hx205_0, hx205_1, hx205_2, hx205_3, hx205_4, hx205_5, hx205_6, hl205_1, hi205_1⟩ := at_T31 HR0.out x13_4 p205 q205
                     obtain rfl : ad200 = ad205 := (by injection e205)
                     replace hx205_0 := (HB.out.cell (World.block_lt_of_cell? w _ hx205_0)).trans hx205_0
                     replace hx205_1 := (HB.out.cell (World.block_lt_of_cell? w _ hx205_1)).trans hx205_1
                     replace hx205_2 := (HB.out.cell (World.block_lt_of_cell? w _ hx205_2)).trans hx205_2
                     replace hx205_3 := (HB.out.cell (World.block_lt_of_cell? w _ hx205_3)).trans hx205_3
                     replace hx205_4 := (HB.out.cell (World.block_lt_of_cell? w _ hx205_4)).trans hx205_4
                     replace hx205_5 := (HB.out.cell (World.block_lt_of_cell? w _ hx205_5)).trans hx205_5
                     replace hx205_6 := (HB.out.cell (World.block_lt_of_cell? w _ hx205_6)).trans hx205_6
                     have HR205_1 := Aside0.mk hi205_1
                     have HC205_1 := Aside0.mk hl205_1
                     clear hi205_1 hl205_1
                     replace p205 := eq_true p205
                     replace q205 := eq_true q205
                     have p206 : 0 ≤ (x13_4 : Int) := of_decide_eq_true (by first | (with_reducible assumption) | assumption)
                     have q206 : x13_4 < (l0.length : Int) := of_decide_eq_true (by first | (with_reducible assumption) | assumption)
                     obtain ⟨ad206, A206_1, c206_1, e206, hx206_0, hx206_1, hx206_2, hx206_3, hx206_4, hx206_5, hx206_6, hl206_1, hi206_1⟩ := at_T31 HR0.out x13_4 p206 q206
                     obtain rfl : ad200 = ad206 := (by injection e206)
                     replace hx206_0 := (HB.out.cell (World.block_lt_of_cell? w _ hx206_0)).trans hx206_0
                     replace hx206_1 := (HB.out.cell (World.block_lt_of_cell? w _ hx206_1)).trans hx206_1
                     replace hx206_2 := (HB.out.cell (World.block_lt_of_cell? w _ hx206_2)).trans hx206_2
                     replace hx206_3 := (HB.out.cell (World.block_lt_of_cell? w _ hx206_3)).trans hx206_3
                     replace hx206_4 := (HB.out.cell (World.block_lt_of_cell? w _ hx206_4)).trans hx206_4
                     replace hx206_5 := (HB.out.cell (World.block_lt_of_cell? w _ hx206_5)).trans hx206_5
                     replace hx206_6 := (HB.out.cell (World.block_lt_of_cell? w _ hx206_6)).trans hx206_6
                     have HR206_1 := Aside0.mk hi206_1
                     have HC206_1 := Aside0.mk hl206_1
                     clear hi206_1 hl206_1
                     replace p206 := eq_true p206
                     replace q206 := eq_true q206
                     have ea_ := Option.some.inj (hx205_1.symm.trans hx206_1)
                     injection ea_ with ea_ en_ ec_
                     subst ea_
                     subst ec_
                     clear en_
                     go_wp2
                     repeat (go_quiet (fail); try go_wp2)
                     go_roundg kj24
                     case measure => have := HJ4.out; have := HJ17.out; have := HJ22.out; have := HK4.out; have := HJ24.out; omega
                     case rel => exact ⟨(wrap64 (x13_4 + x12_22)), (by first | rfl | (simp; done) | (simp [*]; done)), H', ⟨by have := HJ4.out; have := HJ17.out; have := HJ22.out; have := HK4.out; have := HJ24.out; omega⟩, ⟨by (with_reducible repeat (first | apply Kd.S_alloc | apply Kd.S_drewN | apply Kd.S_drew)); exact HO_6.out⟩, ⟨by repeat (first | (with_reducible first | exact HB.out | apply below_alloc | apply pw_below_drewN | apply below_drew1) | exact HB.out)⟩⟩
                   ·
                    rw [if_neg c30] at H
                    have c30b0 : (((rd_T31 l0 x13_4).f0) == 6) = false := beq_eq_false_iff_ne.mpr c30
                    have c30b1 : (((rd_T31 l0 x13_4).f0) != 6) = true := bne_iff_ne.mpr c30
                    have H' := Aside0.mk H
                    clear H
                    have p205 : 0 ≤ (x13_4 : Int) := of_decide_eq_true (by first | (with_reducible assumption) | assumption)
                    have q205 : x13_4 < (l0.length : Int) := of_decide_eq_true (by first | (with_reducible assumption) | assumption)
                    obtain ⟨ad205, A205_1, c205_1, e205, hx205_0, hx205_1, hx205_2, hx205_3, hx205_4, hx205_5, hx205_6, hl205_1, hi205_1⟩ := at_T31 HR0.out x13_4 p205 q205
                    obtain rfl : ad200 = ad205 := (by injection e205)
                    replace hx205_0 := (HB.out.cell (World.block_lt_of_cell? w _ hx205_0)).trans hx205_0
                    replace hx205_1 := (HB.out.cell (World.block_lt_of_cell? w _ hx205_1)).trans hx205_1
                    replace hx205_2 := (HB.out.cell (World.block_lt_of_cell? w _ hx205_2)).trans hx205_2
                    replace hx205_3 := (HB.out.cell (World.block_lt_of_cell? w _ hx205_3)).trans hx205_3
                    replace hx205_4 := (HB.out.cell (World.block_lt_of_cell? w _ hx205_4)).trans hx205_4
                    replace hx205_5 := (HB.out.cell (World.block_lt_of_cell? w _ hx205_5)).trans hx205_5
                    replace hx205_6 := (HB.out.cell (World.block_lt_of_cell? w _ hx205_6)).trans hx205_6
                    have HR205_1 := Aside0.mk hi205_1
                    have HC205_1 := Aside0.mk hl205_1
                    clear hi205_1 hl205_1
                    replace p205 := eq_true p205
                    replace q205 := eq_true q205
                    go_wp2
                    repeat (go_quiet (fail); try go_wp2)
                    go_roundg kj24
                    case measure => have := HJ4.out; have := HJ17.out; have := HJ22.out; have := HK4.out; have := HJ24.out; omega
                    case rel => exact ⟨(wrap64 (x13_4 + x12_22)), (by first | rfl | (simp; done) | (simp [*]; done)), H', ⟨by have := HJ4.out; have := HJ17.out; have := HJ22.out; have := HK4.out; have := HJ24.out; omega⟩, ⟨by (with_reducible repeat (first | apply Kd.S_alloc | apply Kd.S_drewN | apply Kd.S_drew)); exact HO_6.out⟩, ⟨by repeat (first | (with_reducible first | exact HB.out | apply below_alloc | apply pw_below_drewN | apply below_drew1) | exact HB.out)⟩⟩
                  ·
                   rw [if_neg c29] at H
                   exact absurd H (by simp)
                 ·
                  rw [if_neg c28] at H
                  exact absurd H (by simp)
                ·
                 replace c27 := Bool.eq_false_iff.mpr c27
                 (try subst c27)
                 have H1 : (none) = some r := by first | (rw [if_neg (show ¬ (false = true) by decide)] at H; exact H) | exact absurd c27 (by decide)
                 clear H
                 have H := H1
                 clear H1
                 exact absurd H (by simp)
      ·
       rw [if_neg c16] at H
       exact absurd H (by simp)
     ·
      rw [if_neg c15] at H
      exact absurd H (by simp)
 ·
  replace c4 := Bool.eq_false_iff.mpr c4
  (try subst c4)
  have H1 : (none) = some r := by first | (rw [if_neg (show ¬ (false = true) by decide)] at H; exact H) | exact absurd c4 (by decide)
  clear H
  have H := H1
  clear H1
  exact absurd H (by simp)

/-- THE ONE PURE STATEMENT of quoinlaw21_LabelsReach: yours. -/
def quoinlaw21_LabelsReach.Pure : Prop := ∀ (l0 : List (S31)) (a1 : Int), (l0.length ≤ maxLen ∧ ∀ x0_ ∈ l0, wfS31 x0_) → (Lit.int .i64 a1).wf = true → ∃ k, quoinlaw21_LabelsReach.f k l0 a1 = some true
theorem quoinlaw21_LabelsReach.walk (P : quoinlaw21_LabelsReach.Pure) (A0 : Option Addr) (c0 : Nat) (l0 : List (S31)) (a1 : Int) (w : World) (hr0 : Kd.C k31 w A0 l0.length l0) (hc0 : l0.length ≤ c0) (hT : Lib.TabIs Tryd.prog w "internal/strconv.uint64pow10" .u64 Lib.pow10Tab) (w0_0 : (l0.length ≤ maxLen ∧ ∀ x0_ ∈ l0, wfS31 x0_)) (w1_0 : (Lit.int .i64 a1).wf = true) :
  Calls Tryd.prog 4 #[.slice A0 l0.length c0, .int .i64 a1] w fun e w' => e = .returned (.bool true) ∧ Below w.heap.size w w' := by
 obtain ⟨k, h⟩ := P l0 a1 w0_0 w1_0
 refine (quoinlaw21_LabelsReach.calls k A0 c0 l0 a1 true w hr0 hc0 hT h).mono ?_
 rintro e w' ⟨rfl, hd⟩
 exact ⟨rfl, hd⟩

end Go.Proofs.YtkjmbfabgkppaaaDoor.P
