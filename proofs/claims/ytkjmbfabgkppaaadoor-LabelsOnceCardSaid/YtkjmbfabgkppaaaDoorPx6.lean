-- Written by pext.py, a program of this session, over the kit's print: a function's contract
import Derived.Test.YtkjmbfabgkppaaaDoorPx0
import Derived.Test.YtkjmbfabgkppaaaDoorPx2
import Derived.Test.YtkjmbfabgkppaaaDoorPx3
import Derived.Test.YtkjmbfabgkppaaaDoorPx4
import Derived.Test.YtkjmbfabgkppaaaDoorPx5
namespace Go.Proofs.YtkjmbfabgkppaaaDoor.P
open Go.RowKit Go.Proofs.YtkjmbfabgkppaaaDoorW.PrintWords Go.Proofs.YtkjmbfabgkppaaaDoorW.PrintLast Go.Proofs.YtkjmbfabgkppaaaDoorW.PrintMore
attribute [local go_sem] max2_int min2_int max_two min_two max_three min_three max_four min_four   -- for this text's walks alone
set_option linter.unusedVariables false
set_option linter.unusedSimpArgs false

/-! ### quoinlaw21_LabelsOnce: function 3 -/
mutual
def quoinlaw21_LabelsOnce.j0 : Nat → List (S31) → Bool → List (S31) → Bool → Option (Bool)
 | 0, _, _, _, _ => none
 | k + 1, x0, x3, x4, x65 => if x65 = true then (none) else (quoinlaw21_LabelsOnce.l0 k x0 x3 x4 0)
def quoinlaw21_LabelsOnce.l0 : Nat → List (S31) → Bool → List (S31) → Int → Option (Bool)
 | 0, _, _, _, _ => none
 | k + 1, x0, x3, x4, x10 => if x10 < (x0.length : Int) then (if 0 ≤ x10 then (if x10 < (x4.length : Int) then (if ((rd_T31 x4 x10).f0) = 1 then (quoinlaw21_LabelsOnce.j2 k x0 x3 x4 x10 true) else (quoinlaw21_LabelsOnce.j2 k x0 x3 x4 x10 (((rd_T31 x4 x10).f0) == 3))) else (none)) else (none)) else (some x3)
def quoinlaw21_LabelsOnce.j2 : Nat → List (S31) → Bool → List (S31) → Int → Bool → Option (Bool)
 | 0, _, _, _, _, _ => none
 | k + 1, x0, x3, x4, x10, x85 => if x85 = true then (if 0 ≤ x10 then (if x10 < (x4.length : Int) then ((quoinref21_Asks.f k ((rd_T31 x4 x10).f3)).bind fun bt182 => (if bt182.2.2 = true then (none) else (quoinlaw21_LabelsOnce.j3 k x0 x3 x4 x10))) else (none)) else (none)) else (quoinlaw21_LabelsOnce.j3 k x0 x3 x4 x10)
def quoinlaw21_LabelsOnce.j3 : Nat → List (S31) → Bool → List (S31) → Int → Option (Bool)
 | 0, _, _, _, _ => none
 | k + 1, x0, x3, x4, x10 => if 0 ≤ x10 then (if x10 < (x0.length : Int) then (if ((rd_T31 x0 x10).f0) = 6 then (if x10 < (x4.length : Int) then (quoinlaw21_LabelsOnce.j4 k x0 x3 x4 x10 (((rd_T31 x0 x10).f3).toList == ((rd_T31 x4 x10).f3).toList)) else (none)) else (quoinlaw21_LabelsOnce.j4 k x0 x3 x4 x10 true)) else (none)) else (none)
def quoinlaw21_LabelsOnce.j4 : Nat → List (S31) → Bool → List (S31) → Int → Bool → Option (Bool)
 | 0, _, _, _, _, _ => none
 | k + 1, x0, x3, x4, x10, x115 => if x115 = true then (quoinlaw21_LabelsOnce.l0 k x0 x3 x4 (wrap64 (x10 + 1))) else (quoinlaw21_LabelsOnce.l1 k x0 x3 x4 x10 0)
def quoinlaw21_LabelsOnce.l1 : Nat → List (S31) → Bool → List (S31) → Int → Int → Option (Bool)
 | 0, _, _, _, _, _ => none
 | k + 1, x0, x3, x4, x10, x14 => if x14 < x10 then (if 0 ≤ x14 then (if x14 < (x0.length : Int) then (if ((rd_T31 x0 x14).f0) = 6 then (if x14 < (x4.length : Int) then (if ((rd_T31 x0 x14).f3).toList = ((rd_T31 x4 x14).f3).toList then (quoinlaw21_LabelsOnce.l1 k x0 x3 x4 x10 (wrap64 (x14 + 1))) else (if 0 ≤ x10 then (if x10 < (x4.length : Int) then (if ((rd_T31 x4 x14).f3).toList = ((rd_T31 x4 x10).f3).toList then (none) else (quoinlaw21_LabelsOnce.l1 k x0 x3 x4 x10 (wrap64 (x14 + 1)))) else (none)) else (none))) else (none)) else (quoinlaw21_LabelsOnce.l1 k x0 x3 x4 x10 (wrap64 (x14 + 1)))) else (none)) else (none)) else (quoinlaw21_LabelsOnce.l0 k x0 x3 x4 (wrap64 (x10 + 1)))
end
def quoinlaw21_LabelsOnce.f (k : Nat) (l0 : List (S31)) : Option (Bool) := (quoinlaw21_alive.f).bind fun t166 => (if t166 = true then ((quoinref20_Great.f k l0).bind fun t167 => (if t167 = true then (some t166) else ((labels_Rename.f l0).bind fun bt168 => (if bt168.2.2 = 0 then ((labels_Rename.f bt168.1).bind fun bt173 => (if (bt168.1.length : Int) = (l0.length : Int) then (if bt173.2.2 = 0 then ((quoinref21_Same.f k bt168.1 bt173.1).bind fun t178 => (quoinlaw21_LabelsOnce.j0 k l0 t166 bt168.1 (!t178))) else (none)) else (none))) else (if (bt168.1.length : Int) = 0 then (if bt168.2.2 = 4 then (some true) else (some (decide (bt168.2.1 < (l0.length : Int))))) else (none)))))) else (none))
theorem quoinlaw21_LabelsOnce.mono_l : ∀ k, (∀ y0 y1 y2 y3, LeO (quoinlaw21_LabelsOnce.j0 k y0 y1 y2 y3) (quoinlaw21_LabelsOnce.j0 (k + 1) y0 y1 y2 y3)) ∧ (∀ y0 y1 y2 y3, LeO (quoinlaw21_LabelsOnce.l0 k y0 y1 y2 y3) (quoinlaw21_LabelsOnce.l0 (k + 1) y0 y1 y2 y3)) ∧ (∀ y0 y1 y2 y3 y4, LeO (quoinlaw21_LabelsOnce.j2 k y0 y1 y2 y3 y4) (quoinlaw21_LabelsOnce.j2 (k + 1) y0 y1 y2 y3 y4)) ∧ (∀ y0 y1 y2 y3, LeO (quoinlaw21_LabelsOnce.j3 k y0 y1 y2 y3) (quoinlaw21_LabelsOnce.j3 (k + 1) y0 y1 y2 y3)) ∧ (∀ y0 y1 y2 y3 y4, LeO (quoinlaw21_LabelsOnce.j4 k y0 y1 y2 y3 y4) (quoinlaw21_LabelsOnce.j4 (k + 1) y0 y1 y2 y3 y4)) ∧ (∀ y0 y1 y2 y3 y4, LeO (quoinlaw21_LabelsOnce.l1 k y0 y1 y2 y3 y4) (quoinlaw21_LabelsOnce.l1 (k + 1) y0 y1 y2 y3 y4))
 | 0 => ⟨fun _ _ _ _ r h => by simp [quoinlaw21_LabelsOnce.j0] at h, fun _ _ _ _ r h => by simp [quoinlaw21_LabelsOnce.l0] at h, fun _ _ _ _ _ r h => by simp [quoinlaw21_LabelsOnce.j2] at h, fun _ _ _ _ r h => by simp [quoinlaw21_LabelsOnce.j3] at h, fun _ _ _ _ _ r h => by simp [quoinlaw21_LabelsOnce.j4] at h, fun _ _ _ _ _ r h => by simp [quoinlaw21_LabelsOnce.l1] at h⟩
 | k + 1 => by
  obtain ⟨ih0, ih1, ih2, ih3, ih4, ih5⟩ := quoinlaw21_LabelsOnce.mono_l k
  refine ⟨?_, ?_, ?_, ?_, ?_, ?_⟩
  ·
   intro y0 y1 y2 y3
   unfold quoinlaw21_LabelsOnce.j0
   repeat' first
   | (with_reducible exact ih0 _ _ _ _)
   | (with_reducible exact ih1 _ _ _ _)
   | (with_reducible exact ih2 _ _ _ _ _)
   | (with_reducible exact ih3 _ _ _ _)
   | (with_reducible exact ih4 _ _ _ _ _)
   | (with_reducible exact ih5 _ _ _ _ _)
   | (with_reducible exact quoinref20_Great.mono _ _)
   | (with_reducible exact quoinref21_Asks.mono _ _)
   | (with_reducible exact quoinref21_Same.mono _ _ _)
   | (with_reducible exact LeO.refl _)
   | (with_reducible exact LeO.none _)
   | (with_reducible refine LeO.ite ?_ ?_)
   | (with_reducible refine LeO.bind ?_ (fun _ => ?_))
   | exact ih0 _ _ _ _
   | exact ih1 _ _ _ _
   | exact ih2 _ _ _ _ _
   | exact ih3 _ _ _ _
   | exact ih4 _ _ _ _ _
   | exact ih5 _ _ _ _ _
   | exact quoinref20_Great.mono _ _
   | exact quoinref21_Asks.mono _ _
   | exact quoinref21_Same.mono _ _ _
   | exact LeO.none _
   | refine LeO.ite ?_ ?_
   | refine LeO.bind ?_ (fun _ => ?_)
  ·
   intro y0 y1 y2 y3
   unfold quoinlaw21_LabelsOnce.l0
   repeat' first
   | (with_reducible exact ih0 _ _ _ _)
   | (with_reducible exact ih1 _ _ _ _)
   | (with_reducible exact ih2 _ _ _ _ _)
   | (with_reducible exact ih3 _ _ _ _)
   | (with_reducible exact ih4 _ _ _ _ _)
   | (with_reducible exact ih5 _ _ _ _ _)
   | (with_reducible exact quoinref20_Great.mono _ _)
   | (with_reducible exact quoinref21_Asks.mono _ _)
   | (with_reducible exact quoinref21_Same.mono _ _ _)
   | (with_reducible exact LeO.refl _)
   | (with_reducible exact LeO.none _)
   | (with_reducible refine LeO.ite ?_ ?_)
   | (with_reducible refine LeO.bind ?_ (fun _ => ?_))
   | exact ih0 _ _ _ _
   | exact ih1 _ _ _ _
   | exact ih2 _ _ _ _ _
   | exact ih3 _ _ _ _
   | exact ih4 _ _ _ _ _
   | exact ih5 _ _ _ _ _
   | exact quoinref20_Great.mono _ _
   | exact quoinref21_Asks.mono _ _
   | exact quoinref21_Same.mono _ _ _
   | exact LeO.none _
   | refine LeO.ite ?_ ?_
   | refine LeO.bind ?_ (fun _ => ?_)
  ·
   intro y0 y1 y2 y3 y4
   unfold quoinlaw21_LabelsOnce.j2
   repeat' first
   | (with_reducible exact ih0 _ _ _ _)
   | (with_reducible exact ih1 _ _ _ _)
   | (with_reducible exact ih2 _ _ _ _ _)
   | (with_reducible exact ih3 _ _ _ _)
   | (with_reducible exact ih4 _ _ _ _ _)
   | (with_reducible exact ih5 _ _ _ _ _)
   | (with_reducible exact quoinref20_Great.mono _ _)
   | (with_reducible exact quoinref21_Asks.mono _ _)
   | (with_reducible exact quoinref21_Same.mono _ _ _)
   | (with_reducible exact LeO.refl _)
   | (with_reducible exact LeO.none _)
   | (with_reducible refine LeO.ite ?_ ?_)
   | (with_reducible refine LeO.bind ?_ (fun _ => ?_))
   | exact ih0 _ _ _ _
   | exact ih1 _ _ _ _
   | exact ih2 _ _ _ _ _
   | exact ih3 _ _ _ _
   | exact ih4 _ _ _ _ _
   | exact ih5 _ _ _ _ _
   | exact quoinref20_Great.mono _ _
   | exact quoinref21_Asks.mono _ _
   | exact quoinref21_Same.mono _ _ _
   | exact LeO.none _
   | refine LeO.ite ?_ ?_
   | refine LeO.bind ?_ (fun _ => ?_)
  ·
   intro y0 y1 y2 y3
   unfold quoinlaw21_LabelsOnce.j3
   repeat' first
   | (with_reducible exact ih0 _ _ _ _)
   | (with_reducible exact ih1 _ _ _ _)
   | (with_reducible exact ih2 _ _ _ _ _)
   | (with_reducible exact ih3 _ _ _ _)
   | (with_reducible exact ih4 _ _ _ _ _)
   | (with_reducible exact ih5 _ _ _ _ _)
   | (with_reducible exact quoinref20_Great.mono _ _)
   | (with_reducible exact quoinref21_Asks.mono _ _)
   | (with_reducible exact quoinref21_Same.mono _ _ _)
   | (with_reducible exact LeO.refl _)
   | (with_reducible exact LeO.none _)
   | (with_reducible refine LeO.ite ?_ ?_)
   | (with_reducible refine LeO.bind ?_ (fun _ => ?_))
   | exact ih0 _ _ _ _
   | exact ih1 _ _ _ _
   | exact ih2 _ _ _ _ _
   | exact ih3 _ _ _ _
   | exact ih4 _ _ _ _ _
   | exact ih5 _ _ _ _ _
   | exact quoinref20_Great.mono _ _
   | exact quoinref21_Asks.mono _ _
   | exact quoinref21_Same.mono _ _ _
   | exact LeO.none _
   | refine LeO.ite ?_ ?_
   | refine LeO.bind ?_ (fun _ => ?_)
  ·
   intro y0 y1 y2 y3 y4
   unfold quoinlaw21_LabelsOnce.j4
   repeat' first
   | (with_reducible exact ih0 _ _ _ _)
   | (with_reducible exact ih1 _ _ _ _)
   | (with_reducible exact ih2 _ _ _ _ _)
   | (with_reducible exact ih3 _ _ _ _)
   | (with_reducible exact ih4 _ _ _ _ _)
   | (with_reducible exact ih5 _ _ _ _ _)
   | (with_reducible exact quoinref20_Great.mono _ _)
   | (with_reducible exact quoinref21_Asks.mono _ _)
   | (with_reducible exact quoinref21_Same.mono _ _ _)
   | (with_reducible exact LeO.refl _)
   | (with_reducible exact LeO.none _)
   | (with_reducible refine LeO.ite ?_ ?_)
   | (with_reducible refine LeO.bind ?_ (fun _ => ?_))
   | exact ih0 _ _ _ _
   | exact ih1 _ _ _ _
   | exact ih2 _ _ _ _ _
   | exact ih3 _ _ _ _
   | exact ih4 _ _ _ _ _
   | exact ih5 _ _ _ _ _
   | exact quoinref20_Great.mono _ _
   | exact quoinref21_Asks.mono _ _
   | exact quoinref21_Same.mono _ _ _
   | exact LeO.none _
   | refine LeO.ite ?_ ?_
   | refine LeO.bind ?_ (fun _ => ?_)
  ·
   intro y0 y1 y2 y3 y4
   unfold quoinlaw21_LabelsOnce.l1
   repeat' first
   | (with_reducible exact ih0 _ _ _ _)
   | (with_reducible exact ih1 _ _ _ _)
   | (with_reducible exact ih2 _ _ _ _ _)
   | (with_reducible exact ih3 _ _ _ _)
   | (with_reducible exact ih4 _ _ _ _ _)
   | (with_reducible exact ih5 _ _ _ _ _)
   | (with_reducible exact quoinref20_Great.mono _ _)
   | (with_reducible exact quoinref21_Asks.mono _ _)
   | (with_reducible exact quoinref21_Same.mono _ _ _)
   | (with_reducible exact LeO.refl _)
   | (with_reducible exact LeO.none _)
   | (with_reducible refine LeO.ite ?_ ?_)
   | (with_reducible refine LeO.bind ?_ (fun _ => ?_))
   | exact ih0 _ _ _ _
   | exact ih1 _ _ _ _
   | exact ih2 _ _ _ _ _
   | exact ih3 _ _ _ _
   | exact ih4 _ _ _ _ _
   | exact ih5 _ _ _ _ _
   | exact quoinref20_Great.mono _ _
   | exact quoinref21_Asks.mono _ _
   | exact quoinref21_Same.mono _ _ _
   | exact LeO.none _
   | refine LeO.ite ?_ ?_
   | refine LeO.bind ?_ (fun _ => ?_)
theorem quoinlaw21_LabelsOnce.mono : ∀ a0 k, LeO (quoinlaw21_LabelsOnce.f k a0) (quoinlaw21_LabelsOnce.f (k + 1) a0) := by
 intro a0 k
 obtain ⟨ih0, ih1, ih2, ih3, ih4, ih5⟩ := quoinlaw21_LabelsOnce.mono_l k
 unfold quoinlaw21_LabelsOnce.f
 repeat' first
   | (with_reducible exact ih0 _ _ _ _)
   | (with_reducible exact ih1 _ _ _ _)
   | (with_reducible exact ih2 _ _ _ _ _)
   | (with_reducible exact ih3 _ _ _ _)
   | (with_reducible exact ih4 _ _ _ _ _)
   | (with_reducible exact ih5 _ _ _ _ _)
   | (with_reducible exact quoinref20_Great.mono _ _)
   | (with_reducible exact quoinref21_Asks.mono _ _)
   | (with_reducible exact quoinref21_Same.mono _ _ _)
   | (with_reducible exact LeO.refl _)
   | (with_reducible exact LeO.none _)
   | (with_reducible refine LeO.ite ?_ ?_)
   | (with_reducible refine LeO.bind ?_ (fun _ => ?_))
   | exact ih0 _ _ _ _
   | exact ih1 _ _ _ _
   | exact ih2 _ _ _ _ _
   | exact ih3 _ _ _ _
   | exact ih4 _ _ _ _ _
   | exact ih5 _ _ _ _ _
   | exact quoinref20_Great.mono _ _
   | exact quoinref21_Asks.mono _ _
   | exact quoinref21_Same.mono _ _ _
   | exact LeO.none _
   | refine LeO.ite ?_ ?_
   | refine LeO.bind ?_ (fun _ => ?_)
set_option maxHeartbeats 8000000 in
set_option maxRecDepth 100000 in
theorem quoinlaw21_LabelsOnce.calls (k : Nat) (A0 : Option Addr) (c0 : Nat) (l0 : List (S31)) (r : Bool) (w : World) (hr0 : Kd.C k31 w A0 l0.length l0) (hc0 : l0.length ≤ c0) (hT : Lib.TabIs Tryd.prog w "internal/strconv.uint64pow10" .u64 Lib.pow10Tab) (h : quoinlaw21_LabelsOnce.f k l0 = some r) :
  Calls Tryd.prog 3 #[.slice A0 l0.length c0] w fun e w' => e = .returned (.bool r) ∧ Below w.heap.size w w' := by
 have HR0 := Aside0.mk hr0
 have HC0 := Aside0.mk hc0
 clear hr0 hc0
 have HT := Aside0.mk hT
 clear hT
 have HB := Aside0.mk (Below.refl w.heap.size w)
 have H : ((quoinlaw21_alive.f).bind fun t166 => (if t166 = true then ((quoinref20_Great.f k l0).bind fun t167 => (if t167 = true then (some t166) else ((labels_Rename.f l0).bind fun bt168 => (if bt168.2.2 = 0 then ((labels_Rename.f bt168.1).bind fun bt173 => (if (bt168.1.length : Int) = (l0.length : Int) then (if bt173.2.2 = 0 then ((quoinref21_Same.f k bt168.1 bt173.1).bind fun t178 => (quoinlaw21_LabelsOnce.j0 k l0 t166 bt168.1 (!t178))) else (none)) else (none))) else (if (bt168.1.length : Int) = 0 then (if bt168.2.2 = 4 then (some true) else (some (decide (bt168.2.1 < (l0.length : Int))))) else (none)))))) else (none))) = some r := h
 clear h
 replace H := Option.bind_eq_some_iff.mp H
 obtain ⟨t166, A20, H⟩ := H
 replace H : (if t166 = true then ((quoinref20_Great.f k l0).bind fun t167 => (if t167 = true then (some t166) else ((labels_Rename.f l0).bind fun bt168 => (if bt168.2.2 = 0 then ((labels_Rename.f bt168.1).bind fun bt173 => (if (bt168.1.length : Int) = (l0.length : Int) then (if bt173.2.2 = 0 then ((quoinref21_Same.f k bt168.1 bt173.1).bind fun t178 => (quoinlaw21_LabelsOnce.j0 k l0 t166 bt168.1 (!t178))) else (none)) else (none))) else (if (bt168.1.length : Int) = 0 then (if bt168.2.2 = 4 then (some true) else (some (decide (bt168.2.1 < (l0.length : Int))))) else (none)))))) else (none)) = some r := H
 have A2 := Aside0.mk A20
 clear A20
 by_cases c3 : t166 = true
 ·
  subst c3
  have H1 : ((quoinref20_Great.f k l0).bind fun t167 => (if t167 = true then (some true) else ((labels_Rename.f l0).bind fun bt168 => (if bt168.2.2 = 0 then ((labels_Rename.f bt168.1).bind fun bt173 => (if (bt168.1.length : Int) = (l0.length : Int) then (if bt173.2.2 = 0 then ((quoinref21_Same.f k bt168.1 bt173.1).bind fun t178 => (quoinlaw21_LabelsOnce.j0 k l0 true bt168.1 (!t178))) else (none)) else (none))) else (if (bt168.1.length : Int) = 0 then (if bt168.2.2 = 4 then (some true) else (some (decide (bt168.2.1 < (l0.length : Int))))) else (none)))))) = some r := by rw [if_pos rfl] at H; exact H
  clear H
  have H := H1
  clear H1
  replace H := Option.bind_eq_some_iff.mp H
  obtain ⟨t167, A40, H⟩ := H
  replace H : (if t167 = true then (some true) else ((labels_Rename.f l0).bind fun bt168 => (if bt168.2.2 = 0 then ((labels_Rename.f bt168.1).bind fun bt173 => (if (bt168.1.length : Int) = (l0.length : Int) then (if bt173.2.2 = 0 then ((quoinref21_Same.f k bt168.1 bt173.1).bind fun t178 => (quoinlaw21_LabelsOnce.j0 k l0 true bt168.1 (!t178))) else (none)) else (none))) else (if (bt168.1.length : Int) = 0 then (if bt168.2.2 = 4 then (some true) else (some (decide (bt168.2.1 < (l0.length : Int))))) else (none))))) = some r := H
  have A4 := Aside0.mk A40
  clear A40
  by_cases c5 : t167 = true
  ·
   subst c5
   have H1 : (some true) = some r := by rw [if_pos rfl] at H; exact H
   clear H
   have H := H1
   clear H1
   obtain rfl := Option.some.inj H
   go_enter Tryd.func3, Tryd.ntmps3
   go_wp2_with (first | (go_at_call 8; (with_reducible refine (quoinlaw21_alive.calls  true _ ?side1 A2.out).mono ?_); (case side1 => exact Lib.tabBelow_of_tabIs HT.out _ (by repeat (first | (with_reducible first | exact HB.out | apply below_alloc | apply pw_below_drewN | apply below_drew1) | exact HB.out))); rintro e w6 ⟨rfl, hb⟩; have n0_ := Aside0.mk (below_step (by repeat (first | (with_reducible first | exact HB.out | apply below_alloc | apply pw_below_drewN | apply below_drew1) | exact HB.out)) hb); clear HB; have HB := n0_; clear n0_; (try clear hb); (try clear hb2); (try clear hk); (try clear hi)) | (go_at_call 9; (with_reducible refine (quoinref20_Great.calls k _ _ l0 true _ ?side1 ?side2 A4.out).mono ?_); (case side1 => repeat (first | exact (Kd.C_below HR0.out HB.out) | (with_reducible refine Kd.C_alloc ?_ _) | (with_reducible refine Kd.C_drewN ?_ _) | (with_reducible refine Kd.C_drew ?_))); (case side2 => exact HC0.out); rintro e w7 ⟨rfl, hb⟩; have n0_ := Aside0.mk (below_step (by repeat (first | (with_reducible first | exact HB.out | apply below_alloc | apply pw_below_drewN | apply below_drew1) | exact HB.out)) hb); clear HB; have HB := n0_; clear n0_; (try clear hb); (try clear hb2); (try clear hk); (try clear hi)))
   repeat (go_quiet (first | (go_at_call 8; (with_reducible refine (quoinlaw21_alive.calls  true _ ?side1 A2.out).mono ?_); (case side1 => exact Lib.tabBelow_of_tabIs HT.out _ (by repeat (first | (with_reducible first | exact HB.out | apply below_alloc | apply pw_below_drewN | apply below_drew1) | exact HB.out))); rintro e w6 ⟨rfl, hb⟩; have n0_ := Aside0.mk (below_step (by repeat (first | (with_reducible first | exact HB.out | apply below_alloc | apply pw_below_drewN | apply below_drew1) | exact HB.out)) hb); clear HB; have HB := n0_; clear n0_; (try clear hb); (try clear hb2); (try clear hk); (try clear hi)) | (go_at_call 9; (with_reducible refine (quoinref20_Great.calls k _ _ l0 true _ ?side1 ?side2 A4.out).mono ?_); (case side1 => repeat (first | exact (Kd.C_below HR0.out HB.out) | (with_reducible refine Kd.C_alloc ?_ _) | (with_reducible refine Kd.C_drewN ?_ _) | (with_reducible refine Kd.C_drew ?_))); (case side2 => exact HC0.out); rintro e w7 ⟨rfl, hb⟩; have n0_ := Aside0.mk (below_step (by repeat (first | (with_reducible first | exact HB.out | apply below_alloc | apply pw_below_drewN | apply below_drew1) | exact HB.out)) hb); clear HB; have HB := n0_; clear n0_; (try clear hb); (try clear hb2); (try clear hk); (try clear hi))); try go_wp2_with (first | (go_at_call 8; (with_reducible refine (quoinlaw21_alive.calls  true _ ?side1 A2.out).mono ?_); (case side1 => exact Lib.tabBelow_of_tabIs HT.out _ (by repeat (first | (with_reducible first | exact HB.out | apply below_alloc | apply pw_below_drewN | apply below_drew1) | exact HB.out))); rintro e w6 ⟨rfl, hb⟩; have n0_ := Aside0.mk (below_step (by repeat (first | (with_reducible first | exact HB.out | apply below_alloc | apply pw_below_drewN | apply below_drew1) | exact HB.out)) hb); clear HB; have HB := n0_; clear n0_; (try clear hb); (try clear hb2); (try clear hk); (try clear hi)) | (go_at_call 9; (with_reducible refine (quoinref20_Great.calls k _ _ l0 true _ ?side1 ?side2 A4.out).mono ?_); (case side1 => repeat (first | exact (Kd.C_below HR0.out HB.out) | (with_reducible refine Kd.C_alloc ?_ _) | (with_reducible refine Kd.C_drewN ?_ _) | (with_reducible refine Kd.C_drew ?_))); (case side2 => exact HC0.out); rintro e w7 ⟨rfl, hb⟩; have n0_ := Aside0.mk (below_step (by repeat (first | (with_reducible first | exact HB.out | apply below_alloc | apply pw_below_drewN | apply below_drew1) | exact HB.out)) hb); clear HB; have HB := n0_; clear n0_; (try clear hb); (try clear hb2); (try clear hk); (try clear hi))))
   go_ret
   exact ⟨by first | rfl | (simp [errW_none, errW_some] <;> rfl) | (simp [*, errW_none, errW_some] <;> rfl), by repeat (first | (with_reducible first | exact HB.out | apply below_alloc | apply pw_below_drewN | apply below_drew1) | exact HB.out)⟩
  ·
   replace c5 := Bool.eq_false_iff.mpr c5
   (try subst c5)
   have H1 : ((labels_Rename.f l0).bind fun bt168 => (if bt168.2.2 = 0 then ((labels_Rename.f bt168.1).bind fun bt173 => (if (bt168.1.length : Int) = (l0.length : Int) then (if bt173.2.2 = 0 then ((quoinref21_Same.f k bt168.1 bt173.1).bind fun t178 => (quoinlaw21_LabelsOnce.j0 k l0 true bt168.1 (!t178))) else (none)) else (none))) else (if (bt168.1.length : Int) = 0 then (if bt168.2.2 = 4 then (some true) else (some (decide (bt168.2.1 < (l0.length : Int))))) else (none)))) = some r := by first | (rw [if_neg (show ¬ (false = true) by decide)] at H; exact H) | exact absurd c5 (by decide)
   clear H
   have H := H1
   clear H1
   replace H := Option.bind_eq_some_iff.mp H
   obtain ⟨⟨t168, t169, t170⟩, A80, H⟩ := H
   replace H : (if t170 = 0 then ((labels_Rename.f t168).bind fun bt173 => (if (t168.length : Int) = (l0.length : Int) then (if bt173.2.2 = 0 then ((quoinref21_Same.f k t168 bt173.1).bind fun t178 => (quoinlaw21_LabelsOnce.j0 k l0 true t168 (!t178))) else (none)) else (none))) else (if (t168.length : Int) = 0 then (if t170 = 4 then (some true) else (some (decide (t169 < (l0.length : Int))))) else (none))) = some r := H
   have A8 := Aside0.mk A80
   clear A80
   by_cases c9 : t170 = 0
   ·
    rw [if_pos c9] at H
    have c9b0 : (t170 == 0) = true := beq_iff_eq.mpr c9
    have c9b1 : (t170 != 0) = false := bne_eq_false_iff_eq.mpr c9
    clear c9
    replace H := Option.bind_eq_some_iff.mp H
    obtain ⟨⟨t173, t174, t175⟩, A100, H⟩ := H
    replace H : (if (t168.length : Int) = (l0.length : Int) then (if t175 = 0 then ((quoinref21_Same.f k t168 t173).bind fun t178 => (quoinlaw21_LabelsOnce.j0 k l0 true t168 (!t178))) else (none)) else (none)) = some r := H
    have A10 := Aside0.mk A100
    clear A100
    have HC11 := Aside0.mk H
    clear H
    go_enter Tryd.func3, Tryd.ntmps3
    go_upto_region 10 with (first | (go_at_call 8; (with_reducible refine (quoinlaw21_alive.calls  true _ ?side1 A2.out).mono ?_); (case side1 => exact Lib.tabBelow_of_tabIs HT.out _ (by repeat (first | (with_reducible first | exact HB.out | apply below_alloc | apply pw_below_drewN | apply below_drew1) | exact HB.out))); rintro e w12 ⟨rfl, hb⟩; have n0_ := Aside0.mk (below_step (by repeat (first | (with_reducible first | exact HB.out | apply below_alloc | apply pw_below_drewN | apply below_drew1) | exact HB.out)) hb); clear HB; have HB := n0_; clear n0_; (try clear hb); (try clear hb2); (try clear hk); (try clear hi)) | (go_at_call 9; (with_reducible refine (quoinref20_Great.calls k _ _ l0 false _ ?side1 ?side2 A4.out).mono ?_); (case side1 => repeat (first | exact (Kd.C_below HR0.out HB.out) | (with_reducible refine Kd.C_alloc ?_ _) | (with_reducible refine Kd.C_drewN ?_ _) | (with_reducible refine Kd.C_drew ?_))); (case side2 => exact HC0.out); rintro e w13 ⟨rfl, hb⟩; have n0_ := Aside0.mk (below_step (by repeat (first | (with_reducible first | exact HB.out | apply below_alloc | apply pw_below_drewN | apply below_drew1) | exact HB.out)) hb); clear HB; have HB := n0_; clear n0_; (try clear hb); (try clear hb2); (try clear hk); (try clear hi)) | (go_at_call 10; (with_reducible refine (labels_Rename.calls _ _ l0 t168 t169 t170 _ ?side1 ?side2 ?side3 A8.out).mono ?_); (case side1 => repeat (first | exact (Kd.C_below HR0.out HB.out) | (with_reducible refine Kd.C_alloc ?_ _) | (with_reducible refine Kd.C_drewN ?_ _) | (with_reducible refine Kd.C_drew ?_))); (case side2 => exact HC0.out); (case side3 => exact Lib.tabBelow_of_tabIs HT.out _ (by repeat (first | (with_reducible first | exact HB.out | apply below_alloc | apply pw_below_drewN | apply below_drew1) | exact HB.out))); rintro e w14 ⟨v171, rfl, ho0, hb⟩; have n0_ := Aside0.mk (Kd.S_lower ho0 (below_size (by repeat (first | (with_reducible first | exact HB.out | apply below_alloc | apply pw_below_drewN | apply below_drew1) | exact HB.out)))); have n1_ := Aside0.mk (below_step (by repeat (first | (with_reducible first | exact HB.out | apply below_alloc | apply pw_below_drewN | apply below_drew1) | exact HB.out)) hb); clear HB; have HO172 := n0_; have HB := n1_; clear n0_ n1_; (try clear hb); (try clear hb2); (try clear hk); (try clear hi); (try clear ho0); obtain ⟨Ao15, co15, eo15⟩ := Kd.S_slice HO172.out; subst eo15) | (go_at_call 10; (with_reducible refine (labels_Rename.calls _ _ t168 t173 t174 t175 _ ?side1 ?side2 ?side3 A10.out).mono ?_); (case side1 => repeat (first | exact (Kd.S_reads' HO172.out).2.2 | (with_reducible refine Kd.C_alloc ?_ _) | (with_reducible refine Kd.C_drewN ?_ _) | (with_reducible refine Kd.C_drew ?_))); (case side2 => exact (Kd.S_reads' HO172.out).2.1); (case side3 => exact Lib.tabBelow_of_tabIs HT.out _ (by repeat (first | (with_reducible first | exact HB.out | apply below_alloc | apply pw_below_drewN | apply below_drew1) | exact HB.out))); rintro e w16 ⟨v176, rfl, ho0, hb⟩; have n0_ := Aside0.mk (Kd.S_elder' (by (with_reducible repeat (first | apply Kd.S_alloc | apply Kd.S_drewN | apply Kd.S_drew)); exact HO172.out) (Kd.S_base ho0) hb); have n1_ := Aside0.mk (Kd.S_lower (Kd.S_new' ho0 (Kd.S_lt (by (with_reducible repeat (first | apply Kd.S_alloc | apply Kd.S_drewN | apply Kd.S_drew)); exact HO172.out))) (below_size (by repeat (first | (with_reducible first | exact HB.out | apply below_alloc | apply pw_below_drewN | apply below_drew1) | exact HB.out)))); have n2_ := Aside0.mk (below_step (by repeat (first | (with_reducible first | exact HB.out | apply below_alloc | apply pw_below_drewN | apply below_drew1) | exact HB.out)) hb); clear HO172; clear HB; have HO172 := n0_; have HO177 := n1_; have HB := n2_; clear n0_ n1_ n2_; (try clear hb); (try clear hb2); (try clear hk); (try clear hi); (try clear ho0)))
    repeat (go_quiet (first | (go_at_call 8; (with_reducible refine (quoinlaw21_alive.calls  true _ ?side1 A2.out).mono ?_); (case side1 => exact Lib.tabBelow_of_tabIs HT.out _ (by repeat (first | (with_reducible first | exact HB.out | apply below_alloc | apply pw_below_drewN | apply below_drew1) | exact HB.out))); rintro e w12 ⟨rfl, hb⟩; have n0_ := Aside0.mk (below_step (by repeat (first | (with_reducible first | exact HB.out | apply below_alloc | apply pw_below_drewN | apply below_drew1) | exact HB.out)) hb); clear HB; have HB := n0_; clear n0_; (try clear hb); (try clear hb2); (try clear hk); (try clear hi)) | (go_at_call 9; (with_reducible refine (quoinref20_Great.calls k _ _ l0 false _ ?side1 ?side2 A4.out).mono ?_); (case side1 => repeat (first | exact (Kd.C_below HR0.out HB.out) | (with_reducible refine Kd.C_alloc ?_ _) | (with_reducible refine Kd.C_drewN ?_ _) | (with_reducible refine Kd.C_drew ?_))); (case side2 => exact HC0.out); rintro e w13 ⟨rfl, hb⟩; have n0_ := Aside0.mk (below_step (by repeat (first | (with_reducible first | exact HB.out | apply below_alloc | apply pw_below_drewN | apply below_drew1) | exact HB.out)) hb); clear HB; have HB := n0_; clear n0_; (try clear hb); (try clear hb2); (try clear hk); (try clear hi)) | (go_at_call 10; (with_reducible refine (labels_Rename.calls _ _ l0 t168 t169 t170 _ ?side1 ?side2 ?side3 A8.out).mono ?_); (case side1 => repeat (first | exact (Kd.C_below HR0.out HB.out) | (with_reducible refine Kd.C_alloc ?_ _) | (with_reducible refine Kd.C_drewN ?_ _) | (with_reducible refine Kd.C_drew ?_))); (case side2 => exact HC0.out); (case side3 => exact Lib.tabBelow_of_tabIs HT.out _ (by repeat (first | (with_reducible first | exact HB.out | apply below_alloc | apply pw_below_drewN | apply below_drew1) | exact HB.out))); rintro e w14 ⟨v171, rfl, ho0, hb⟩; have n0_ := Aside0.mk (Kd.S_lower ho0 (below_size (by repeat (first | (with_reducible first | exact HB.out | apply below_alloc | apply pw_below_drewN | apply below_drew1) | exact HB.out)))); have n1_ := Aside0.mk (below_step (by repeat (first | (with_reducible first | exact HB.out | apply below_alloc | apply pw_below_drewN | apply below_drew1) | exact HB.out)) hb); clear HB; have HO172 := n0_; have HB := n1_; clear n0_ n1_; (try clear hb); (try clear hb2); (try clear hk); (try clear hi); (try clear ho0); obtain ⟨Ao15, co15, eo15⟩ := Kd.S_slice HO172.out; subst eo15) | (go_at_call 10; (with_reducible refine (labels_Rename.calls _ _ t168 t173 t174 t175 _ ?side1 ?side2 ?side3 A10.out).mono ?_); (case side1 => repeat (first | exact (Kd.S_reads' HO172.out).2.2 | (with_reducible refine Kd.C_alloc ?_ _) | (with_reducible refine Kd.C_drewN ?_ _) | (with_reducible refine Kd.C_drew ?_))); (case side2 => exact (Kd.S_reads' HO172.out).2.1); (case side3 => exact Lib.tabBelow_of_tabIs HT.out _ (by repeat (first | (with_reducible first | exact HB.out | apply below_alloc | apply pw_below_drewN | apply below_drew1) | exact HB.out))); rintro e w16 ⟨v176, rfl, ho0, hb⟩; have n0_ := Aside0.mk (Kd.S_elder' (by (with_reducible repeat (first | apply Kd.S_alloc | apply Kd.S_drewN | apply Kd.S_drew)); exact HO172.out) (Kd.S_base ho0) hb); have n1_ := Aside0.mk (Kd.S_lower (Kd.S_new' ho0 (Kd.S_lt (by (with_reducible repeat (first | apply Kd.S_alloc | apply Kd.S_drewN | apply Kd.S_drew)); exact HO172.out))) (below_size (by repeat (first | (with_reducible first | exact HB.out | apply below_alloc | apply pw_below_drewN | apply below_drew1) | exact HB.out)))); have n2_ := Aside0.mk (below_step (by repeat (first | (with_reducible first | exact HB.out | apply below_alloc | apply pw_below_drewN | apply below_drew1) | exact HB.out)) hb); clear HO172; clear HB; have HO172 := n0_; have HO177 := n1_; have HB := n2_; clear n0_ n1_ n2_; (try clear hb); (try clear hb2); (try clear hk); (try clear hi); (try clear ho0))); go_upto_region 10 with (first | (go_at_call 8; (with_reducible refine (quoinlaw21_alive.calls  true _ ?side1 A2.out).mono ?_); (case side1 => exact Lib.tabBelow_of_tabIs HT.out _ (by repeat (first | (with_reducible first | exact HB.out | apply below_alloc | apply pw_below_drewN | apply below_drew1) | exact HB.out))); rintro e w12 ⟨rfl, hb⟩; have n0_ := Aside0.mk (below_step (by repeat (first | (with_reducible first | exact HB.out | apply below_alloc | apply pw_below_drewN | apply below_drew1) | exact HB.out)) hb); clear HB; have HB := n0_; clear n0_; (try clear hb); (try clear hb2); (try clear hk); (try clear hi)) | (go_at_call 9; (with_reducible refine (quoinref20_Great.calls k _ _ l0 false _ ?side1 ?side2 A4.out).mono ?_); (case side1 => repeat (first | exact (Kd.C_below HR0.out HB.out) | (with_reducible refine Kd.C_alloc ?_ _) | (with_reducible refine Kd.C_drewN ?_ _) | (with_reducible refine Kd.C_drew ?_))); (case side2 => exact HC0.out); rintro e w13 ⟨rfl, hb⟩; have n0_ := Aside0.mk (below_step (by repeat (first | (with_reducible first | exact HB.out | apply below_alloc | apply pw_below_drewN | apply below_drew1) | exact HB.out)) hb); clear HB; have HB := n0_; clear n0_; (try clear hb); (try clear hb2); (try clear hk); (try clear hi)) | (go_at_call 10; (with_reducible refine (labels_Rename.calls _ _ l0 t168 t169 t170 _ ?side1 ?side2 ?side3 A8.out).mono ?_); (case side1 => repeat (first | exact (Kd.C_below HR0.out HB.out) | (with_reducible refine Kd.C_alloc ?_ _) | (with_reducible refine Kd.C_drewN ?_ _) | (with_reducible refine Kd.C_drew ?_))); (case side2 => exact HC0.out); (case side3 => exact Lib.tabBelow_of_tabIs HT.out _ (by repeat (first | (with_reducible first | exact HB.out | apply below_alloc | apply pw_below_drewN | apply below_drew1) | exact HB.out))); rintro e w14 ⟨v171, rfl, ho0, hb⟩; have n0_ := Aside0.mk (Kd.S_lower ho0 (below_size (by repeat (first | (with_reducible first | exact HB.out | apply below_alloc | apply pw_below_drewN | apply below_drew1) | exact HB.out)))); have n1_ := Aside0.mk (below_step (by repeat (first | (with_reducible first | exact HB.out | apply below_alloc | apply pw_below_drewN | apply below_drew1) | exact HB.out)) hb); clear HB; have HO172 := n0_; have HB := n1_; clear n0_ n1_; (try clear hb); (try clear hb2); (try clear hk); (try clear hi); (try clear ho0); obtain ⟨Ao15, co15, eo15⟩ := Kd.S_slice HO172.out; subst eo15) | (go_at_call 10; (with_reducible refine (labels_Rename.calls _ _ t168 t173 t174 t175 _ ?side1 ?side2 ?side3 A10.out).mono ?_); (case side1 => repeat (first | exact (Kd.S_reads' HO172.out).2.2 | (with_reducible refine Kd.C_alloc ?_ _) | (with_reducible refine Kd.C_drewN ?_ _) | (with_reducible refine Kd.C_drew ?_))); (case side2 => exact (Kd.S_reads' HO172.out).2.1); (case side3 => exact Lib.tabBelow_of_tabIs HT.out _ (by repeat (first | (with_reducible first | exact HB.out | apply below_alloc | apply pw_below_drewN | apply below_drew1) | exact HB.out))); rintro e w16 ⟨v176, rfl, ho0, hb⟩; have n0_ := Aside0.mk (Kd.S_elder' (by (with_reducible repeat (first | apply Kd.S_alloc | apply Kd.S_drewN | apply Kd.S_drew)); exact HO172.out) (Kd.S_base ho0) hb); have n1_ := Aside0.mk (Kd.S_lower (Kd.S_new' ho0 (Kd.S_lt (by (with_reducible repeat (first | apply Kd.S_alloc | apply Kd.S_drewN | apply Kd.S_drew)); exact HO172.out))) (below_size (by repeat (first | (with_reducible first | exact HB.out | apply below_alloc | apply pw_below_drewN | apply below_drew1) | exact HB.out)))); have n2_ := Aside0.mk (below_step (by repeat (first | (with_reducible first | exact HB.out | apply below_alloc | apply pw_below_drewN | apply below_drew1) | exact HB.out)) hb); clear HO172; clear HB; have HO172 := n0_; have HO177 := n1_; have HB := n2_; clear n0_ n1_ n2_; (try clear hb); (try clear hb2); (try clear hk); (try clear hi); (try clear ho0))))
    (try simp only [Act.put, List.setIfInBounds_toArray, List.set_cons_zero, List.set_cons_succ])
    go_cut [65] (fun v65 wc => ∃ (kq : Nat) (x65_10 : Bool), v65 = .bool x65_10 ∧ Aside0 (quoinlaw21_LabelsOnce.j0 kq l0 true t168 x65_10 = some r) ∧ Aside0 (kq ≤ k) ∧ Aside0 (Kd.S k31 31 wc w.heap.size (fun _ => True) (.slice Ao15 t168.length co15) t168) ∧ Aside0 (Below w.heap.size w wc))
    case first =>
     have H := HC11.out
     clear HC11
     by_cases c17 : (t168.length : Int) = (l0.length : Int)
     ·
      rw [if_pos c17] at H
      have c17b0 : ((t168.length : Int) == (l0.length : Int)) = true := beq_iff_eq.mpr c17
      have c17b1 : ((t168.length : Int) != (l0.length : Int)) = false := bne_eq_false_iff_eq.mpr c17
      have c17b2 : (t168.length == l0.length) = true := by first | simpa using c17 | (simp at c17 ⊢; omega)
      clear c17
      (first | rw [c17b0] | (simp only [i64_w, i32_w]; rw [c17b0]) | skip)
      by_cases c18 : t175 = 0
      ·
       rw [if_pos c18] at H
       have c18b0 : (t175 == 0) = true := beq_iff_eq.mpr c18
       have c18b1 : (t175 != 0) = false := bne_eq_false_iff_eq.mpr c18
       clear c18
       replace H := Option.bind_eq_some_iff.mp H
       obtain ⟨t178, A190, H⟩ := H
       replace H : (quoinlaw21_LabelsOnce.j0 k l0 true t168 (!t178)) = some r := H
       have A19 := Aside0.mk A190
       clear A190
       have H' := Aside0.mk H
       clear H
       obtain ⟨Ao20, co20, eo20⟩ := Kd.S_slice HO177.out
       subst eo20
       go_wp2_with (first | (go_at_call 11; (with_reducible refine (quoinref21_Same.calls k _ _ t168 _ _ t173 t178 _ ?side1 ?side2 ?side3 ?side4 A19.out).mono ?_); (case side1 => repeat (first | exact (Kd.S_reads' HO172.out).2.2 | (with_reducible refine Kd.C_alloc ?_ _) | (with_reducible refine Kd.C_drewN ?_ _) | (with_reducible refine Kd.C_drew ?_))); (case side2 => exact (Kd.S_reads' HO172.out).2.1); (case side3 => repeat (first | exact (Kd.S_reads' HO177.out).2.2 | (with_reducible refine Kd.C_alloc ?_ _) | (with_reducible refine Kd.C_drewN ?_ _) | (with_reducible refine Kd.C_drew ?_))); (case side4 => exact (Kd.S_reads' HO177.out).2.1); rintro e w21 ⟨rfl, hb⟩; have n0_ := Aside0.mk (Kd.S_below (by (with_reducible repeat (first | apply Kd.S_alloc | apply Kd.S_drewN | apply Kd.S_drew)); exact HO172.out) hb); have n1_ := Aside0.mk (Kd.S_below (by (with_reducible repeat (first | apply Kd.S_alloc | apply Kd.S_drewN | apply Kd.S_drew)); exact HO177.out) hb); have n2_ := Aside0.mk (below_step (by repeat (first | (with_reducible first | exact HB.out | apply below_alloc | apply pw_below_drewN | apply below_drew1) | exact HB.out)) hb); clear HO172; clear HO177; clear HB; have HO172 := n0_; have HO177 := n1_; have HB := n2_; clear n0_ n1_ n2_; (try clear hb); (try clear hb2); (try clear hk); (try clear hi)))
       repeat (go_quiet (first | (go_at_call 11; (with_reducible refine (quoinref21_Same.calls k _ _ t168 _ _ t173 t178 _ ?side1 ?side2 ?side3 ?side4 A19.out).mono ?_); (case side1 => repeat (first | exact (Kd.S_reads' HO172.out).2.2 | (with_reducible refine Kd.C_alloc ?_ _) | (with_reducible refine Kd.C_drewN ?_ _) | (with_reducible refine Kd.C_drew ?_))); (case side2 => exact (Kd.S_reads' HO172.out).2.1); (case side3 => repeat (first | exact (Kd.S_reads' HO177.out).2.2 | (with_reducible refine Kd.C_alloc ?_ _) | (with_reducible refine Kd.C_drewN ?_ _) | (with_reducible refine Kd.C_drew ?_))); (case side4 => exact (Kd.S_reads' HO177.out).2.1); rintro e w21 ⟨rfl, hb⟩; have n0_ := Aside0.mk (Kd.S_below (by (with_reducible repeat (first | apply Kd.S_alloc | apply Kd.S_drewN | apply Kd.S_drew)); exact HO172.out) hb); have n1_ := Aside0.mk (Kd.S_below (by (with_reducible repeat (first | apply Kd.S_alloc | apply Kd.S_drewN | apply Kd.S_drew)); exact HO177.out) hb); have n2_ := Aside0.mk (below_step (by repeat (first | (with_reducible first | exact HB.out | apply below_alloc | apply pw_below_drewN | apply below_drew1) | exact HB.out)) hb); clear HO172; clear HO177; clear HB; have HO172 := n0_; have HO177 := n1_; have HB := n2_; clear n0_ n1_ n2_; (try clear hb); (try clear hb2); (try clear hk); (try clear hi))); try go_wp2_with (first | (go_at_call 11; (with_reducible refine (quoinref21_Same.calls k _ _ t168 _ _ t173 t178 _ ?side1 ?side2 ?side3 ?side4 A19.out).mono ?_); (case side1 => repeat (first | exact (Kd.S_reads' HO172.out).2.2 | (with_reducible refine Kd.C_alloc ?_ _) | (with_reducible refine Kd.C_drewN ?_ _) | (with_reducible refine Kd.C_drew ?_))); (case side2 => exact (Kd.S_reads' HO172.out).2.1); (case side3 => repeat (first | exact (Kd.S_reads' HO177.out).2.2 | (with_reducible refine Kd.C_alloc ?_ _) | (with_reducible refine Kd.C_drewN ?_ _) | (with_reducible refine Kd.C_drew ?_))); (case side4 => exact (Kd.S_reads' HO177.out).2.1); rintro e w21 ⟨rfl, hb⟩; have n0_ := Aside0.mk (Kd.S_below (by (with_reducible repeat (first | apply Kd.S_alloc | apply Kd.S_drewN | apply Kd.S_drew)); exact HO172.out) hb); have n1_ := Aside0.mk (Kd.S_below (by (with_reducible repeat (first | apply Kd.S_alloc | apply Kd.S_drewN | apply Kd.S_drew)); exact HO177.out) hb); have n2_ := Aside0.mk (below_step (by repeat (first | (with_reducible first | exact HB.out | apply below_alloc | apply pw_below_drewN | apply below_drew1) | exact HB.out)) hb); clear HO172; clear HO177; clear HB; have HO172 := n0_; have HO177 := n1_; have HB := n2_; clear n0_ n1_ n2_; (try clear hb); (try clear hb2); (try clear hk); (try clear hi))))
       go_meet
       case rel => exact ⟨_, (!t178), (by first | rfl | (simp; done) | (simp [*]; done)), H', ⟨by first | omega | exact Nat.le_refl _⟩, ⟨by (with_reducible repeat (first | apply Kd.S_alloc | apply Kd.S_drewN | apply Kd.S_drew)); exact Kd.S_mono HO172.out (fun _ hk => trivial)⟩, ⟨by repeat (first | (with_reducible first | exact HB.out | apply below_alloc | apply pw_below_drewN | apply below_drew1) | exact HB.out)⟩⟩
      ·
       rw [if_neg c18] at H
       exact absurd H (by simp)
     ·
      rw [if_neg c17] at H
      exact absurd H (by simp)
    case rest =>
     clear HC11
     try clear c1
     try clear p2
     try clear c3
     try clear c5
     try clear c9
     try clear c9b0
     try clear c9b1
     try clear c17
     try clear c17b0
     try clear c17b1
     try clear c17b2
     try clear c18
     try clear c18b0
     try clear c18b1
     obtain ⟨kq, x65_10, rfl, HA, HJ10, HO_4, HB⟩ := hcut
     cases kq with
     | zero => exact absurd HA.out (by simp [quoinlaw21_LabelsOnce.j0])
     | succ kj10 =>
      have H := HA.out
      clear HA
      simp only [quoinlaw21_LabelsOnce.j0] at H
      by_cases c22 : x65_10 = true
      ·
       subst c22
       have H1 : (none) = some r := by rw [if_pos rfl] at H; exact H
       clear H
       have H := H1
       clear H1
       exact absurd H (by simp)
      ·
       replace c22 := Bool.eq_false_iff.mpr c22
       (try subst c22)
       have H1 : (quoinlaw21_LabelsOnce.l0 kj10 l0 true t168 0) = some r := by first | (rw [if_neg (show ¬ (false = true) by decide)] at H; exact H) | exact absurd c22 (by decide)
       clear H
       have H := H1
       clear H1
       have H' := Aside0.mk H
       clear H
       go_wp2
       repeat (go_quiet (fail); try go_wp2)
       go_loopg [10] kj10 (fun kq v10 w' => ∃ (x10_2 : Int), v10 = .int .i64 x10_2 ∧ Aside0 (quoinlaw21_LabelsOnce.l0 kq l0 true t168 x10_2 = some r) ∧ Aside0 (kq ≤ kj10) ∧ Aside0 (Kd.S k31 31 w' w.heap.size (fun _ => True) (.slice Ao15 t168.length co15) t168) ∧ Aside0 (Below w.heap.size w w'))
       case atStart => exact ⟨(0), (by first | rfl | (simp; done) | (simp [*]; done)), H', ⟨Nat.le_refl _⟩, ⟨by (with_reducible repeat (first | apply Kd.S_alloc | apply Kd.S_drewN | apply Kd.S_drew)); exact HO_4.out⟩, ⟨by repeat (first | (with_reducible first | exact HB.out | apply below_alloc | apply pw_below_drewN | apply below_drew1) | exact HB.out)⟩⟩
       case round =>
        clear H'
        try clear c1
        try clear c2
        try clear p2
        try clear c3
        try clear c5
        try clear c9
        try clear c9b0
        try clear c9b1
        try clear c17
        try clear c17b0
        try clear c17b1
        try clear c17b2
        try clear c18
        try clear c18b0
        try clear c18b1
        try clear c22
        try clear p2
        obtain ⟨x10_2, rfl, HA, HK2, HO_4, HB⟩ := hrel
        cases gk with
        | zero => exact absurd HA.out (by simp [quoinlaw21_LabelsOnce.l0])
        | succ k2 =>
         have H := HA.out
         clear HA
         simp only [quoinlaw21_LabelsOnce.l0] at H
         by_cases c23 : x10_2 < (l0.length : Int)
         ·
          rw [if_pos c23] at H
          have c23b0 : decide (x10_2 < (l0.length : Int)) = true := decide_eq_true c23
          clear c23
          have HC24 := Aside0.mk H
          clear H
          go_upto_region 15 with (fail)
          repeat (go_quiet (fail); go_upto_region 15 with (fail))
          go_cut [85] (fun v85 wc => ∃ (kq : Nat) (x85_23 : Bool), v85 = .bool x85_23 ∧ Aside0 (quoinlaw21_LabelsOnce.j2 kq l0 true t168 x10_2 x85_23 = some r) ∧ Aside0 (kq ≤ k2) ∧ Aside0 (Kd.S k31 31 wc w.heap.size (fun _ => True) (.slice Ao15 t168.length co15) t168) ∧ Aside0 (Below w.heap.size w wc))
          case first =>
           have H := HC24.out
           clear HC24
           by_cases c25 : 0 ≤ x10_2
           ·
            rw [if_pos c25] at H
            have c25b0 : decide (0 ≤ x10_2) = true := decide_eq_true c25
            clear c25
            (first | rw [c25b0] | (simp only [i64_w, i32_w]; rw [c25b0]) | skip)
            by_cases c26 : x10_2 < (t168.length : Int)
            ·
             rw [if_pos c26] at H
             have c26b0 : decide (x10_2 < (t168.length : Int)) = true := decide_eq_true c26
             clear c26
             by_cases c27 : ((rd_T31 t168 x10_2).f0) = 1
             ·
              rw [if_pos c27] at H
              have c27b0 : (((rd_T31 t168 x10_2).f0) == 1) = true := beq_iff_eq.mpr c27
              have c27b1 : (((rd_T31 t168 x10_2).f0) != 1) = false := bne_eq_false_iff_eq.mpr c27
              clear c27
              have H' := Aside0.mk H
              clear H
              have p179 : 0 ≤ (x10_2 : Int) := of_decide_eq_true (by first | (with_reducible assumption) | assumption)
              have q179 : x10_2 < (t168.length : Int) := of_decide_eq_true (by first | (with_reducible assumption) | assumption)
              obtain ⟨ad179, A179_1, c179_1, e179, hx179_0, hx179_1, hx179_2, hx179_3, hx179_4, hx179_5, hx179_6, hl179_1, hi179_1⟩ := at_T31 (Kd.S_reads' HO_4.out).2.2 x10_2 p179 q179
              cases e179
              obtain ⟨ce179, hce179, hMe179, hcc179⟩ := Kd.S_get HO_4.out z31 x10_2 p179 (by first | exact q179 | exact of_decide_eq_true (by first | (with_reducible assumption) | assumption) | (have e_ := (Kd.S_reads' HO_4.out).1; omega))
              obtain ⟨ve179_1, rfl, ge179_1⟩ := k31_openM hMe179
              have hv179_1 := hcc179 1 _ rfl
              rw [add_field _ _ 1 (by omega)] at hv179_1
              replace hv179_1 := Option.some.inj (hv179_1.symm.trans hx179_1)
              rw [hv179_1] at ge179_1
              have HL179_1 := Aside0.mk (show Kd.R (Kd.int .u8) 5 _ _ _ _ ((rd_T31 t168 x10_2).f1) from ge179_1)
              clear hv179_1 ge179_1
              clear hcc179 hce179
              have HR179_1 := Aside0.mk hi179_1
              have HC179_1 := Aside0.mk hl179_1
              clear hi179_1 hl179_1
              replace p179 := eq_true p179
              replace q179 := eq_true q179
              go_wp2
              repeat (go_quiet (fail); try go_wp2)
              go_meet
              case rel => exact ⟨_, (true), (by first | rfl | (simp; done) | (simp [*]; done)), H', ⟨by have := HJ10.out; have := HK2.out; first | omega | exact Nat.le_refl _⟩, ⟨by (with_reducible repeat (first | apply Kd.S_alloc | apply Kd.S_drewN | apply Kd.S_drew)); exact HO_4.out⟩, ⟨by repeat (first | (with_reducible first | exact HB.out | apply below_alloc | apply pw_below_drewN | apply below_drew1) | exact HB.out)⟩⟩
             ·
              rw [if_neg c27] at H
              have c27b0 : (((rd_T31 t168 x10_2).f0) == 1) = false := beq_eq_false_iff_ne.mpr c27
              have c27b1 : (((rd_T31 t168 x10_2).f0) != 1) = true := bne_iff_ne.mpr c27
              have H' := Aside0.mk H
              clear H
              have p179 : 0 ≤ (x10_2 : Int) := of_decide_eq_true (by first | (with_reducible assumption) | assumption)
              have q179 : x10_2 < (t168.length : Int) := of_decide_eq_true (by first | (with_reducible assumption) | assumption)
              obtain ⟨ad179, A179_1, c179_1, e179, hx179_0, hx179_1, hx179_2, hx179_3, hx179_4, hx179_5, hx179_6, hl179_1, hi179_1⟩ := at_T31 (Kd.S_reads' HO_4.out).2.2 x10_2 p179 q179
              cases e179
              obtain ⟨ce179, hce179, hMe179, hcc179⟩ := Kd.S_get HO_4.out z31 x10_2 p179 (by first | exact q179 | exact of_decide_eq_true (by first | (with_reducible assumption) | assumption) | (have e_ := (Kd.S_reads' HO_4.out).1; omega))
              obtain ⟨ve179_1, rfl, ge179_1⟩ := k31_openM hMe179
              have hv179_1 := hcc179 1 _ rfl
              rw [add_field _ _ 1 (by omega)] at hv179_1
              replace hv179_1 := Option.some.inj (hv179_1.symm.trans hx179_1)
              rw [hv179_1] at ge179_1
              have HL179_1 := Aside0.mk (show Kd.R (Kd.int .u8) 5 _ _ _ _ ((rd_T31 t168 x10_2).f1) from ge179_1)
              clear hv179_1 ge179_1
              clear hcc179 hce179
              have HR179_1 := Aside0.mk hi179_1
              have HC179_1 := Aside0.mk hl179_1
              clear hi179_1 hl179_1
              replace p179 := eq_true p179
              replace q179 := eq_true q179
              have p180 : 0 ≤ (x10_2 : Int) := of_decide_eq_true (by first | (with_reducible assumption) | assumption)
              have q180 : x10_2 < (t168.length : Int) := of_decide_eq_true (by first | (with_reducible assumption) | assumption)
              obtain ⟨ad180, A180_1, c180_1, e180, hx180_0, hx180_1, hx180_2, hx180_3, hx180_4, hx180_5, hx180_6, hl180_1, hi180_1⟩ := at_T31 (Kd.S_reads' HO_4.out).2.2 x10_2 p180 q180
              obtain rfl : ad179 = ad180 := (by injection e180)
              obtain ⟨ce180, hce180, hMe180, hcc180⟩ := Kd.S_get HO_4.out z31 x10_2 p180 (by first | exact q180 | exact of_decide_eq_true (by first | (with_reducible assumption) | assumption) | (have e_ := (Kd.S_reads' HO_4.out).1; omega))
              obtain ⟨ve180_1, rfl, ge180_1⟩ := k31_openM hMe180
              have hv180_1 := hcc180 1 _ rfl
              rw [add_field _ _ 1 (by omega)] at hv180_1
              replace hv180_1 := Option.some.inj (hv180_1.symm.trans hx180_1)
              rw [hv180_1] at ge180_1
              have HL180_1 := Aside0.mk (show Kd.R (Kd.int .u8) 5 _ _ _ _ ((rd_T31 t168 x10_2).f1) from ge180_1)
              clear hv180_1 ge180_1
              clear hcc180 hce180
              have HR180_1 := Aside0.mk hi180_1
              have HC180_1 := Aside0.mk hl180_1
              clear hi180_1 hl180_1
              replace p180 := eq_true p180
              replace q180 := eq_true q180
              have ea_ := Option.some.inj (hx179_1.symm.trans hx180_1)
              injection ea_ with ea_ en_ ec_
              subst ea_
              subst ec_
              clear en_
              go_wp2
              repeat (go_quiet (fail); try go_wp2)
              go_meet
              case rel => exact ⟨_, ((((rd_T31 t168 x10_2).f0) == 3)), (by first | rfl | (simp; done) | (simp [*]; done)), H', ⟨by have := HJ10.out; have := HK2.out; first | omega | exact Nat.le_refl _⟩, ⟨by (with_reducible repeat (first | apply Kd.S_alloc | apply Kd.S_drewN | apply Kd.S_drew)); exact HO_4.out⟩, ⟨by repeat (first | (with_reducible first | exact HB.out | apply below_alloc | apply pw_below_drewN | apply below_drew1) | exact HB.out)⟩⟩
            ·
             rw [if_neg c26] at H
             exact absurd H (by simp)
           ·
            rw [if_neg c25] at H
            exact absurd H (by simp)
          case rest =>
           clear HC24
           try clear c1
           try clear p1
           try clear q1
           try clear hx1
           try clear c2
           try clear p2
           try clear c3
           try clear c5
           try clear c9
           try clear c9b0
           try clear c9b1
           try clear c17
           try clear c17b0
           try clear c17b1
           try clear c17b2
           try clear p17
           try clear q17
           try clear hx17
           try clear c18
           try clear c18b0
           try clear c18b1
           try clear p18
           try clear q18
           try clear hx18
           try clear c22
           try clear c23
           try clear c23b0
           try clear c25
           try clear c25b0
           try clear c26
           try clear c26b0
           try clear c27
           try clear c27b0
           try clear c27b1
           try clear hx179_0
           try clear hx179_1
           try clear hx179_2
           try clear hx179_3
           try clear hx179_4
           try clear hx179_5
           try clear hx179_6
           try clear hx180_0
           try clear hx180_1
           try clear hx180_2
           try clear hx180_3
           try clear hx180_4
           try clear hx180_5
           try clear hx180_6
           try clear p179
           try clear p180
           try clear p2
           try clear q179
           try clear q180
           obtain ⟨kq, x85_23, rfl, HA, HJ23, HO_4, HB⟩ := hcut
           cases kq with
           | zero => exact absurd HA.out (by simp [quoinlaw21_LabelsOnce.j2])
           | succ kj23 =>
            have H := HA.out
            clear HA
            simp only [quoinlaw21_LabelsOnce.j2] at H
            have HC28 := Aside0.mk H
            clear H
            go_upto_if 85 with (fail)
            repeat (go_quiet (fail); go_upto_if 85 with (fail))
            go_cut [] (fun wc => ∃ (kq : Nat), Aside0 (quoinlaw21_LabelsOnce.j3 kq l0 true t168 x10_2 = some r) ∧ Aside0 (kq ≤ kj23) ∧ Aside0 (Kd.S k31 31 wc w.heap.size (fun _ => True) (.slice Ao15 t168.length co15) t168) ∧ Aside0 (Below w.heap.size w wc))
            case first =>
             have H := HC28.out
             clear HC28
             by_cases c29 : x85_23 = true
             ·
              subst c29
              have H1 : (if 0 ≤ x10_2 then (if x10_2 < (t168.length : Int) then ((quoinref21_Asks.f kj23 ((rd_T31 t168 x10_2).f3)).bind fun bt182 => (if bt182.2.2 = true then (none) else (quoinlaw21_LabelsOnce.j3 kj23 l0 true t168 x10_2))) else (none)) else (none)) = some r := by rw [if_pos rfl] at H; exact H
              clear H
              have H := H1
              clear H1
              by_cases c30 : 0 ≤ x10_2
              ·
               rw [if_pos c30] at H
               have c30b0 : decide (0 ≤ x10_2) = true := decide_eq_true c30
               clear c30
               (first | rw [c30b0] | (simp only [i64_w, i32_w]; rw [c30b0]) | skip)
               by_cases c31 : x10_2 < (t168.length : Int)
               ·
                rw [if_pos c31] at H
                have c31b0 : decide (x10_2 < (t168.length : Int)) = true := decide_eq_true c31
                clear c31
                replace H := Option.bind_eq_some_iff.mp H
                obtain ⟨⟨t182, t183, t184⟩, A320, H⟩ := H
                replace H : (if t184 = true then (none) else (quoinlaw21_LabelsOnce.j3 kj23 l0 true t168 x10_2)) = some r := H
                have A32 := Aside0.mk A320
                clear A320
                by_cases c33 : t184 = true
                ·
                 subst c33
                 have H1 : (none) = some r := by rw [if_pos rfl] at H; exact H
                 clear H
                 have H := H1
                 clear H1
                 exact absurd H (by simp)
                ·
                 replace c33 := Bool.eq_false_iff.mpr c33
                 (try subst c33)
                 have H1 : (quoinlaw21_LabelsOnce.j3 kj23 l0 true t168 x10_2) = some r := by first | (rw [if_neg (show ¬ (false = true) by decide)] at H; exact H) | exact absurd c33 (by decide)
                 clear H
                 have H := H1
                 clear H1
                 have H' := Aside0.mk H
                 clear H
                 have p181 : 0 ≤ (x10_2 : Int) := of_decide_eq_true (by first | (with_reducible assumption) | assumption)
                 have q181 : x10_2 < (t168.length : Int) := of_decide_eq_true (by first | (with_reducible assumption) | assumption)
                 obtain ⟨ad181, A181_1, c181_1, e181, hx181_0, hx181_1, hx181_2, hx181_3, hx181_4, hx181_5, hx181_6, hl181_1, hi181_1⟩ := at_T31 (Kd.S_reads' HO_4.out).2.2 x10_2 p181 q181
                 cases e181
                 obtain ⟨ce181, hce181, hMe181, hcc181⟩ := Kd.S_get HO_4.out z31 x10_2 p181 (by first | exact q181 | exact of_decide_eq_true (by first | (with_reducible assumption) | assumption) | (have e_ := (Kd.S_reads' HO_4.out).1; omega))
                 obtain ⟨ve181_1, rfl, ge181_1⟩ := k31_openM hMe181
                 have hv181_1 := hcc181 1 _ rfl
                 rw [add_field _ _ 1 (by omega)] at hv181_1
                 replace hv181_1 := Option.some.inj (hv181_1.symm.trans hx181_1)
                 rw [hv181_1] at ge181_1
                 have HL181_1 := Aside0.mk (show Kd.R (Kd.int .u8) 5 _ _ _ _ ((rd_T31 t168 x10_2).f1) from ge181_1)
                 clear hv181_1 ge181_1
                 clear hcc181 hce181
                 have HR181_1 := Aside0.mk hi181_1
                 have HC181_1 := Aside0.mk hl181_1
                 clear hi181_1 hl181_1
                 replace p181 := eq_true p181
                 replace q181 := eq_true q181
                 go_wp2_with (first | (go_at_call 12; (with_reducible refine (quoinref21_Asks.calls kj23 ((rd_T31 t168 x10_2).f3) t182 t183 false _ A32.out).mono ?_); rintro e w' ⟨rfl, ⟨nd, rfl⟩⟩; (try first | exact ⟨rfl, _, World.drewN_drewN _ _ _⟩ | exact ⟨rfl, _, Eq.trans (World.drewN_drewN _ _ _) (congrArg (World.drewN _) (Nat.add_assoc _ _ _))⟩)))
                 repeat (go_quiet (first | (go_at_call 12; (with_reducible refine (quoinref21_Asks.calls kj23 ((rd_T31 t168 x10_2).f3) t182 t183 false _ A32.out).mono ?_); rintro e w' ⟨rfl, ⟨nd, rfl⟩⟩; (try first | exact ⟨rfl, _, World.drewN_drewN _ _ _⟩ | exact ⟨rfl, _, Eq.trans (World.drewN_drewN _ _ _) (congrArg (World.drewN _) (Nat.add_assoc _ _ _))⟩))); try go_wp2_with (first | (go_at_call 12; (with_reducible refine (quoinref21_Asks.calls kj23 ((rd_T31 t168 x10_2).f3) t182 t183 false _ A32.out).mono ?_); rintro e w' ⟨rfl, ⟨nd, rfl⟩⟩; (try first | exact ⟨rfl, _, World.drewN_drewN _ _ _⟩ | exact ⟨rfl, _, Eq.trans (World.drewN_drewN _ _ _) (congrArg (World.drewN _) (Nat.add_assoc _ _ _))⟩))))
                 go_meet
                 case rel => exact ⟨_, H', ⟨by have := HJ10.out; have := HK2.out; have := HJ23.out; first | omega | exact Nat.le_refl _⟩, ⟨by (with_reducible repeat (first | apply Kd.S_alloc | apply Kd.S_drewN | apply Kd.S_drew)); exact HO_4.out⟩, ⟨by repeat (first | (with_reducible first | exact HB.out | apply below_alloc | apply pw_below_drewN | apply below_drew1) | exact HB.out)⟩⟩
               ·
                rw [if_neg c31] at H
                exact absurd H (by simp)
              ·
               rw [if_neg c30] at H
               exact absurd H (by simp)
             ·
              replace c29 := Bool.eq_false_iff.mpr c29
              (try subst c29)
              have H1 : (quoinlaw21_LabelsOnce.j3 kj23 l0 true t168 x10_2) = some r := by first | (rw [if_neg (show ¬ (false = true) by decide)] at H; exact H) | exact absurd c29 (by decide)
              clear H
              have H := H1
              clear H1
              have H' := Aside0.mk H
              clear H
              go_wp2
              repeat (go_quiet (fail); try go_wp2)
              go_meet
              case rel => exact ⟨_, H', ⟨by have := HJ10.out; have := HK2.out; have := HJ23.out; first | omega | exact Nat.le_refl _⟩, ⟨by (with_reducible repeat (first | apply Kd.S_alloc | apply Kd.S_drewN | apply Kd.S_drew)); exact HO_4.out⟩, ⟨by repeat (first | (with_reducible first | exact HB.out | apply below_alloc | apply pw_below_drewN | apply below_drew1) | exact HB.out)⟩⟩
            case rest =>
             clear HC28
             try clear c1
             try clear p1
             try clear q1
             try clear hx1
             try clear c2
             try clear p2
             try clear c3
             try clear c5
             try clear c9
             try clear c9b0
             try clear c9b1
             try clear c17
             try clear c17b0
             try clear c17b1
             try clear c17b2
             try clear p17
             try clear q17
             try clear hx17
             try clear c18
             try clear c18b0
             try clear c18b1
             try clear p18
             try clear q18
             try clear hx18
             try clear c22
             try clear c23
             try clear c23b0
             try clear c25
             try clear c25b0
             try clear c26
             try clear c26b0
             try clear c27
             try clear c27b0
             try clear c27b1
             try clear c29
             try clear c30
             try clear c30b0
             try clear c31
             try clear c31b0
             try clear c33
             try clear hx179_0
             try clear hx179_1
             try clear hx179_2
             try clear hx179_3
             try clear hx179_4
             try clear hx179_5
             try clear hx179_6
             try clear hx180_0
             try clear hx180_1
             try clear hx180_2
             try clear hx180_3
             try clear hx180_4
             try clear hx180_5
             try clear hx180_6
             try clear hx181_0
             try clear hx181_1
             try clear hx181_2
             try clear hx181_3
             try clear hx181_4
             try clear hx181_5
             try clear hx181_6
             try clear p1
             try clear p17
             try clear p179
             try clear p18
             try clear p180
             try clear p181
             try clear p2
             try clear q1
             try clear q17
             try clear q179
             try clear q18
             try clear q180
             try clear q181
             obtain ⟨kq, HA, HJ27, HO_4, HB⟩ := hcut
             cases kq with
             | zero => exact absurd HA.out (by simp [quoinlaw21_LabelsOnce.j3])
             | succ kj27 =>
              have H := HA.out
              clear HA
              simp only [quoinlaw21_LabelsOnce.j3] at H
              have HC34 := Aside0.mk H
              clear H
              go_upto_region 19 with (fail)
              repeat (go_quiet (fail); go_upto_region 19 with (fail))
              go_cut [115] (fun v115 wc => ∃ (kq : Nat) (x115_33 : Bool), v115 = .bool x115_33 ∧ Aside0 (quoinlaw21_LabelsOnce.j4 kq l0 true t168 x10_2 x115_33 = some r) ∧ Aside0 (kq ≤ kj27) ∧ Aside0 (Kd.S k31 31 wc w.heap.size (fun _ => True) (.slice Ao15 t168.length co15) t168) ∧ Aside0 (Below w.heap.size w wc))
              case first =>
               have H := HC34.out
               clear HC34
               by_cases c35 : 0 ≤ x10_2
               ·
                rw [if_pos c35] at H
                have c35b0 : decide (0 ≤ x10_2) = true := decide_eq_true c35
                clear c35
                (first | rw [c35b0] | (simp only [i64_w, i32_w]; rw [c35b0]) | skip)
                by_cases c36 : x10_2 < (l0.length : Int)
                ·
                 rw [if_pos c36] at H
                 have c36b0 : decide (x10_2 < (l0.length : Int)) = true := decide_eq_true c36
                 clear c36
                 by_cases c37 : ((rd_T31 l0 x10_2).f0) = 6
                 ·
                  rw [if_pos c37] at H
                  have c37b0 : (((rd_T31 l0 x10_2).f0) == 6) = true := beq_iff_eq.mpr c37
                  have c37b1 : (((rd_T31 l0 x10_2).f0) != 6) = false := bne_eq_false_iff_eq.mpr c37
                  clear c37
                  by_cases c38 : x10_2 < (t168.length : Int)
                  ·
                   rw [if_pos c38] at H
                   have c38b0 : decide (x10_2 < (t168.length : Int)) = true := decide_eq_true c38
                   clear c38
                   have H' := Aside0.mk H
                   clear H
                   have p185 : 0 ≤ (x10_2 : Int) := of_decide_eq_true (by first | (with_reducible assumption) | assumption)
                   have q185 : x10_2 < (l0.length : Int) := of_decide_eq_true (by first | (with_reducible assumption) | assumption)
                   obtain ⟨ad185, A185_1, c185_1, e185, hx185_0, hx185_1, hx185_2, hx185_3, hx185_4, hx185_5, hx185_6, hl185_1, hi185_1⟩ := at_T31 HR0.out x10_2 p185 q185
                   cases e185
                   replace hx185_0 := (HB.out.cell (World.block_lt_of_cell? w _ hx185_0)).trans hx185_0
                   replace hx185_1 := (HB.out.cell (World.block_lt_of_cell? w _ hx185_1)).trans hx185_1
                   replace hx185_2 := (HB.out.cell (World.block_lt_of_cell? w _ hx185_2)).trans hx185_2
                   replace hx185_3 := (HB.out.cell (World.block_lt_of_cell? w _ hx185_3)).trans hx185_3
                   replace hx185_4 := (HB.out.cell (World.block_lt_of_cell? w _ hx185_4)).trans hx185_4
                   replace hx185_5 := (HB.out.cell (World.block_lt_of_cell? w _ hx185_5)).trans hx185_5
                   replace hx185_6 := (HB.out.cell (World.block_lt_of_cell? w _ hx185_6)).trans hx185_6
                   have HR185_1 := Aside0.mk hi185_1
                   have HC185_1 := Aside0.mk hl185_1
                   clear hi185_1 hl185_1
                   replace p185 := eq_true p185
                   replace q185 := eq_true q185
                   have p186 : 0 ≤ (x10_2 : Int) := of_decide_eq_true (by first | (with_reducible assumption) | assumption)
                   have q186 : x10_2 < (l0.length : Int) := of_decide_eq_true (by first | (with_reducible assumption) | assumption)
                   obtain ⟨ad186, A186_1, c186_1, e186, hx186_0, hx186_1, hx186_2, hx186_3, hx186_4, hx186_5, hx186_6, hl186_1, hi186_1⟩ := at_T31 HR0.out x10_2 p186 q186
                   obtain rfl : ad185 = ad186 := (by injection e186)
                   replace hx186_0 := (HB.out.cell (World.block_lt_of_cell? w _ hx186_0)).trans hx186_0
                   replace hx186_1 := (HB.out.cell (World.block_lt_of_cell? w _ hx186_1)).trans hx186_1
                   replace hx186_2 := (HB.out.cell (World.block_lt_of_cell? w _ hx186_2)).trans hx186_2
                   replace hx186_3 := (HB.out.cell (World.block_lt_of_cell? w _ hx186_3)).trans hx186_3
                   replace hx186_4 := (HB.out.cell (World.block_lt_of_cell? w _ hx186_4)).trans hx186_4
                   replace hx186_5 := (HB.out.cell (World.block_lt_of_cell? w _ hx186_5)).trans hx186_5
                   replace hx186_6 := (HB.out.cell (World.block_lt_of_cell? w _ hx186_6)).trans hx186_6
                   have HR186_1 := Aside0.mk hi186_1
                   have HC186_1 := Aside0.mk hl186_1
                   clear hi186_1 hl186_1
                   replace p186 := eq_true p186
                   replace q186 := eq_true q186
                   have ea_ := Option.some.inj (hx185_1.symm.trans hx186_1)
                   injection ea_ with ea_ en_ ec_
                   subst ea_
                   subst ec_
                   clear en_
                   have p187 : 0 ≤ (x10_2 : Int) := of_decide_eq_true (by first | (with_reducible assumption) | assumption)
                   have q187 : x10_2 < (t168.length : Int) := of_decide_eq_true (by first | (with_reducible assumption) | assumption)
                   obtain ⟨ad187, A187_1, c187_1, e187, hx187_0, hx187_1, hx187_2, hx187_3, hx187_4, hx187_5, hx187_6, hl187_1, hi187_1⟩ := at_T31 (Kd.S_reads' HO_4.out).2.2 x10_2 p187 q187
                   cases e187
                   obtain ⟨ce187, hce187, hMe187, hcc187⟩ := Kd.S_get HO_4.out z31 x10_2 p187 (by first | exact q187 | exact of_decide_eq_true (by first | (with_reducible assumption) | assumption) | (have e_ := (Kd.S_reads' HO_4.out).1; omega))
                   obtain ⟨ve187_1, rfl, ge187_1⟩ := k31_openM hMe187
                   have hv187_1 := hcc187 1 _ rfl
                   rw [add_field _ _ 1 (by omega)] at hv187_1
                   replace hv187_1 := Option.some.inj (hv187_1.symm.trans hx187_1)
                   rw [hv187_1] at ge187_1
                   have HL187_1 := Aside0.mk (show Kd.R (Kd.int .u8) 5 _ _ _ _ ((rd_T31 t168 x10_2).f1) from ge187_1)
                   clear hv187_1 ge187_1
                   clear hcc187 hce187
                   have HR187_1 := Aside0.mk hi187_1
                   have HC187_1 := Aside0.mk hl187_1
                   clear hi187_1 hl187_1
                   replace p187 := eq_true p187
                   replace q187 := eq_true q187
                   go_wp2
                   repeat (go_quiet (fail); try go_wp2)
                   go_meet
                   case rel => exact ⟨_, ((((rd_T31 l0 x10_2).f3).toList == ((rd_T31 t168 x10_2).f3).toList)), (by first | rfl | (simp; done) | (simp [*]; done)), H', ⟨by have := HJ10.out; have := HK2.out; have := HJ23.out; have := HJ27.out; first | omega | exact Nat.le_refl _⟩, ⟨by (with_reducible repeat (first | apply Kd.S_alloc | apply Kd.S_drewN | apply Kd.S_drew)); exact HO_4.out⟩, ⟨by repeat (first | (with_reducible first | exact HB.out | apply below_alloc | apply pw_below_drewN | apply below_drew1) | exact HB.out)⟩⟩
                  ·
                   rw [if_neg c38] at H
                   exact absurd H (by simp)
                 ·
                  rw [if_neg c37] at H
                  have c37b0 : (((rd_T31 l0 x10_2).f0) == 6) = false := beq_eq_false_iff_ne.mpr c37
                  have c37b1 : (((rd_T31 l0 x10_2).f0) != 6) = true := bne_iff_ne.mpr c37
                  have H' := Aside0.mk H
                  clear H
                  have p185 : 0 ≤ (x10_2 : Int) := of_decide_eq_true (by first | (with_reducible assumption) | assumption)
                  have q185 : x10_2 < (l0.length : Int) := of_decide_eq_true (by first | (with_reducible assumption) | assumption)
                  obtain ⟨ad185, A185_1, c185_1, e185, hx185_0, hx185_1, hx185_2, hx185_3, hx185_4, hx185_5, hx185_6, hl185_1, hi185_1⟩ := at_T31 HR0.out x10_2 p185 q185
                  cases e185
                  replace hx185_0 := (HB.out.cell (World.block_lt_of_cell? w _ hx185_0)).trans hx185_0
                  replace hx185_1 := (HB.out.cell (World.block_lt_of_cell? w _ hx185_1)).trans hx185_1
                  replace hx185_2 := (HB.out.cell (World.block_lt_of_cell? w _ hx185_2)).trans hx185_2
                  replace hx185_3 := (HB.out.cell (World.block_lt_of_cell? w _ hx185_3)).trans hx185_3
                  replace hx185_4 := (HB.out.cell (World.block_lt_of_cell? w _ hx185_4)).trans hx185_4
                  replace hx185_5 := (HB.out.cell (World.block_lt_of_cell? w _ hx185_5)).trans hx185_5
                  replace hx185_6 := (HB.out.cell (World.block_lt_of_cell? w _ hx185_6)).trans hx185_6
                  have HR185_1 := Aside0.mk hi185_1
                  have HC185_1 := Aside0.mk hl185_1
                  clear hi185_1 hl185_1
                  replace p185 := eq_true p185
                  replace q185 := eq_true q185
                  go_wp2
                  repeat (go_quiet (fail); try go_wp2)
                  go_meet
                  case rel => exact ⟨_, (true), (by first | rfl | (simp; done) | (simp [*]; done)), H', ⟨by have := HJ10.out; have := HK2.out; have := HJ23.out; have := HJ27.out; first | omega | exact Nat.le_refl _⟩, ⟨by (with_reducible repeat (first | apply Kd.S_alloc | apply Kd.S_drewN | apply Kd.S_drew)); exact HO_4.out⟩, ⟨by repeat (first | (with_reducible first | exact HB.out | apply below_alloc | apply pw_below_drewN | apply below_drew1) | exact HB.out)⟩⟩
                ·
                 rw [if_neg c36] at H
                 exact absurd H (by simp)
               ·
                rw [if_neg c35] at H
                exact absurd H (by simp)
              case rest =>
               clear HC34
               try clear c1
               try clear p1
               try clear q1
               try clear hx1
               try clear c2
               try clear p2
               try clear c3
               try clear c5
               try clear c9
               try clear c9b0
               try clear c9b1
               try clear c17
               try clear c17b0
               try clear c17b1
               try clear c17b2
               try clear p17
               try clear q17
               try clear hx17
               try clear c18
               try clear c18b0
               try clear c18b1
               try clear p18
               try clear q18
               try clear hx18
               try clear c22
               try clear c23
               try clear c23b0
               try clear c25
               try clear c25b0
               try clear c26
               try clear c26b0
               try clear c27
               try clear c27b0
               try clear c27b1
               try clear c29
               try clear c30
               try clear c30b0
               try clear c31
               try clear c31b0
               try clear c33
               try clear c35
               try clear c35b0
               try clear c36
               try clear c36b0
               try clear c37
               try clear c37b0
               try clear c37b1
               try clear c38
               try clear c38b0
               try clear hx179_0
               try clear hx179_1
               try clear hx179_2
               try clear hx179_3
               try clear hx179_4
               try clear hx179_5
               try clear hx179_6
               try clear hx180_0
               try clear hx180_1
               try clear hx180_2
               try clear hx180_3
               try clear hx180_4
               try clear hx180_5
               try clear hx180_6
               try clear hx181_0
               try clear hx181_1
               try clear hx181_2
               try clear hx181_3
               try clear hx181_4
               try clear hx181_5
               try clear hx181_6
               try clear hx185_0
               try clear hx185_1
               try clear hx185_2
               try clear hx185_3
               try clear hx185_4
               try clear hx185_5
               try clear hx185_6
               try clear hx186_0
               try clear hx186_1
               try clear hx186_2
               try clear hx186_3
               try clear hx186_4
               try clear hx186_5
               try clear hx186_6
               try clear hx187_0
               try clear hx187_1
               try clear hx187_2
               try clear hx187_3
               try clear hx187_4
               try clear hx187_5
               try clear hx187_6
               try clear p1
               try clear p17
               try clear p179
               try clear p18
               try clear p180
               try clear p181
               try clear p185
               try clear p186
               try clear p187
               try clear p2
               try clear q1
               try clear q17
               try clear q179
               try clear q18
               try clear q180
               try clear q181
               try clear q185
               try clear q186
               try clear q187
               obtain ⟨kq, x115_33, rfl, HA, HJ33, HO_4, HB⟩ := hcut
               cases kq with
               | zero => exact absurd HA.out (by simp [quoinlaw21_LabelsOnce.j4])
               | succ kj33 =>
                have H := HA.out
                clear HA
                simp only [quoinlaw21_LabelsOnce.j4] at H
                by_cases c39 : x115_33 = true
                ·
                 subst c39
                 have H1 : (quoinlaw21_LabelsOnce.l0 kj33 l0 true t168 (wrap64 (x10_2 + 1))) = some r := by rw [if_pos rfl] at H; exact H
                 clear H
                 have H := H1
                 clear H1
                 have H' := Aside0.mk H
                 clear H
                 go_wp2
                 repeat (go_quiet (fail); try go_wp2)
                 go_roundg kj33
                 case measure => have := HJ10.out; have := HK2.out; have := HJ23.out; have := HJ27.out; have := HJ33.out; omega
                 case rel => exact ⟨(wrap64 (x10_2 + 1)), (by first | rfl | (simp; done) | (simp [*]; done)), H', ⟨by have := HJ10.out; have := HK2.out; have := HJ23.out; have := HJ27.out; have := HJ33.out; omega⟩, ⟨by (with_reducible repeat (first | apply Kd.S_alloc | apply Kd.S_drewN | apply Kd.S_drew)); exact HO_4.out⟩, ⟨by repeat (first | (with_reducible first | exact HB.out | apply below_alloc | apply pw_below_drewN | apply below_drew1) | exact HB.out)⟩⟩
                ·
                 replace c39 := Bool.eq_false_iff.mpr c39
                 (try subst c39)
                 have H1 : (quoinlaw21_LabelsOnce.l1 kj33 l0 true t168 x10_2 0) = some r := by first | (rw [if_neg (show ¬ (false = true) by decide)] at H; exact H) | exact absurd c39 (by decide)
                 clear H
                 have H := H1
                 clear H1
                 have H' := Aside0.mk H
                 clear H
                 go_wp2
                 repeat (go_quiet (fail); try go_wp2)
                 go_loopg [14] kj33 (fun kq v14 w' => ∃ (x14_6 : Int), v14 = .int .i64 x14_6 ∧ Aside0 (quoinlaw21_LabelsOnce.l1 kq l0 true t168 x10_2 x14_6 = some r) ∧ Aside0 (kq ≤ kj33) ∧ Aside0 (Kd.S k31 31 w' w.heap.size (fun _ => True) (.slice Ao15 t168.length co15) t168) ∧ Aside0 (Below w.heap.size w w'))
                 case atStart => exact ⟨(0), (by first | rfl | (simp; done) | (simp [*]; done)), H', ⟨Nat.le_refl _⟩, ⟨by (with_reducible repeat (first | apply Kd.S_alloc | apply Kd.S_drewN | apply Kd.S_drew)); exact HO_4.out⟩, ⟨by repeat (first | (with_reducible first | exact HB.out | apply below_alloc | apply pw_below_drewN | apply below_drew1) | exact HB.out)⟩⟩
                 case round =>
                  clear H'
                  try clear c1
                  try clear p1
                  try clear q1
                  try clear hx1
                  try clear c2
                  try clear p2
                  try clear c3
                  try clear c5
                  try clear p6
                  try clear c9
                  try clear c9b0
                  try clear c9b1
                  try clear c17
                  try clear c17b0
                  try clear c17b1
                  try clear c17b2
                  try clear p17
                  try clear q17
                  try clear hx17
                  try clear c18
                  try clear c18b0
                  try clear c18b1
                  try clear p18
                  try clear q18
                  try clear hx18
                  try clear c22
                  try clear c23
                  try clear c23b0
                  try clear c25
                  try clear c25b0
                  try clear c26
                  try clear c26b0
                  try clear c27
                  try clear c27b0
                  try clear c27b1
                  try clear c29
                  try clear c30
                  try clear c30b0
                  try clear c31
                  try clear c31b0
                  try clear c33
                  try clear c35
                  try clear c35b0
                  try clear c36
                  try clear c36b0
                  try clear c37
                  try clear c37b0
                  try clear c37b1
                  try clear c38
                  try clear c38b0
                  try clear c39
                  try clear hx179_0
                  try clear hx179_1
                  try clear hx179_2
                  try clear hx179_3
                  try clear hx179_4
                  try clear hx179_5
                  try clear hx179_6
                  try clear hx180_0
                  try clear hx180_1
                  try clear hx180_2
                  try clear hx180_3
                  try clear hx180_4
                  try clear hx180_5
                  try clear hx180_6
                  try clear hx181_0
                  try clear hx181_1
                  try clear hx181_2
                  try clear hx181_3
                  try clear hx181_4
                  try clear hx181_5
                  try clear hx181_6
                  try clear hx185_0
                  try clear hx185_1
                  try clear hx185_2
                  try clear hx185_3
                  try clear hx185_4
                  try clear hx185_5
                  try clear hx185_6
                  try clear hx186_0
                  try clear hx186_1
                  try clear hx186_2
                  try clear hx186_3
                  try clear hx186_4
                  try clear hx186_5
                  try clear hx186_6
                  try clear hx187_0
                  try clear hx187_1
                  try clear hx187_2
                  try clear hx187_3
                  try clear hx187_4
                  try clear hx187_5
                  try clear hx187_6
                  try clear p1
                  try clear p17
                  try clear p179
                  try clear p18
                  try clear p180
                  try clear p181
                  try clear p185
                  try clear p186
                  try clear p187
                  try clear p2
                  try clear q1
                  try clear q17
                  try clear q179
                  try clear q18
                  try clear q180
                  try clear q181
                  try clear q185
                  try clear q186
                  try clear q187
                  obtain ⟨x14_6, rfl, HA, HK6, HO_4, HB⟩ := hrel
                  cases gk with
                  | zero => exact absurd HA.out (by simp [quoinlaw21_LabelsOnce.l1])
                  | succ k6 =>
                   have H := HA.out
                   clear HA
                   simp only [quoinlaw21_LabelsOnce.l1] at H
                   by_cases c40 : x14_6 < x10_2
                   ·
                    rw [if_pos c40] at H
                    have c40b0 : decide (x14_6 < x10_2) = true := decide_eq_true c40
                    clear c40
                    by_cases c41 : 0 ≤ x14_6
                    ·
                     rw [if_pos c41] at H
                     have c41b0 : decide (0 ≤ x14_6) = true := decide_eq_true c41
                     clear c41
                     by_cases c42 : x14_6 < (l0.length : Int)
                     ·
                      rw [if_pos c42] at H
                      have c42b0 : decide (x14_6 < (l0.length : Int)) = true := decide_eq_true c42
                      clear c42
                      by_cases c43 : ((rd_T31 l0 x14_6).f0) = 6
                      ·
                       rw [if_pos c43] at H
                       have c43b0 : (((rd_T31 l0 x14_6).f0) == 6) = true := beq_iff_eq.mpr c43
                       have c43b1 : (((rd_T31 l0 x14_6).f0) != 6) = false := bne_eq_false_iff_eq.mpr c43
                       clear c43
                       by_cases c44 : x14_6 < (t168.length : Int)
                       ·
                        rw [if_pos c44] at H
                        have c44b0 : decide (x14_6 < (t168.length : Int)) = true := decide_eq_true c44
                        clear c44
                        by_cases c45 : ((rd_T31 l0 x14_6).f3).toList = ((rd_T31 t168 x14_6).f3).toList
                        ·
                         rw [if_pos c45] at H
                         have c45b0 : (((rd_T31 l0 x14_6).f3).toList == ((rd_T31 t168 x14_6).f3).toList) = true := beq_iff_eq.mpr c45
                         have c45b1 : (((rd_T31 l0 x14_6).f3).toList != ((rd_T31 t168 x14_6).f3).toList) = false := bne_eq_false_iff_eq.mpr c45
                         clear c45
                         have H' := Aside0.mk H
                         clear H
                         have p188 : 0 ≤ (x14_6 : Int) := of_decide_eq_true (by first | (with_reducible assumption) | assumption)
                         have q188 : x14_6 < (l0.length : Int) := of_decide_eq_true (by first | (with_reducible assumption) | assumption)
                         obtain ⟨ad188, A188_1, c188_1, e188, hx188_0, hx188_1, hx188_2, hx188_3, hx188_4, hx188_5, hx188_6, hl188_1, hi188_1⟩ := at_T31 HR0.out x14_6 p188 q188
                         cases e188
                         replace hx188_0 := (HB.out.cell (World.block_lt_of_cell? w _ hx188_0)).trans hx188_0
                         replace hx188_1 := (HB.out.cell (World.block_lt_of_cell? w _ hx188_1)).trans hx188_1
                         replace hx188_2 := (HB.out.cell (World.block_lt_of_cell? w _ hx188_2)).trans hx188_2
                         replace hx188_3 := (HB.out.cell (World.block_lt_of_cell? w _ hx188_3)).trans hx188_3
                         replace hx188_4 := (HB.out.cell (World.block_lt_of_cell? w _ hx188_4)).trans hx188_4
                         replace hx188_5 := (HB.out.cell (World.block_lt_of_cell? w _ hx188_5)).trans hx188_5
                         replace hx188_6 := (HB.out.cell (World.block_lt_of_cell? w _ hx188_6)).trans hx188_6
                         have HR188_1 := Aside0.mk hi188_1
                         have HC188_1 := Aside0.mk hl188_1
                         clear hi188_1 hl188_1
                         replace p188 := eq_true p188
                         replace q188 := eq_true q188
                         have p189 : 0 ≤ (x14_6 : Int) := of_decide_eq_true (by first | (with_reducible assumption) | assumption)
                         have q189 : x14_6 < (l0.length : Int) := of_decide_eq_true (by first | (with_reducible assumption) | assumption)
                         obtain ⟨ad189, A189_1, c189_1, e189, hx189_0, hx189_1, hx189_2, hx189_3, hx189_4, hx189_5, hx189_6, hl189_1, hi189_1⟩ := at_T31 HR0.out x14_6 p189 q189
                         obtain rfl : ad188 = ad189 := (by injection e189)
                         replace hx189_0 := (HB.out.cell (World.block_lt_of_cell? w _ hx189_0)).trans hx189_0
                         replace hx189_1 := (HB.out.cell (World.block_lt_of_cell? w _ hx189_1)).trans hx189_1
                         replace hx189_2 := (HB.out.cell (World.block_lt_of_cell? w _ hx189_2)).trans hx189_2
                         replace hx189_3 := (HB.out.cell (World.block_lt_of_cell? w _ hx189_3)).trans hx189_3
                         replace hx189_4 := (HB.out.cell (World.block_lt_of_cell? w _ hx189_4)).trans hx189_4
                         replace hx189_5 := (HB.out.cell (World.block_lt_of_cell? w _ hx189_5)).trans hx189_5
                         replace hx189_6 := (HB.out.cell (World.block_lt_of_cell? w _ hx189_6)).trans hx189_6
                         have HR189_1 := Aside0.mk hi189_1
                         have HC189_1 := Aside0.mk hl189_1
                         clear hi189_1 hl189_1
                         replace p189 := eq_true p189
                         replace q189 := eq_true q189
                         have ea_ := Option.some.inj (hx188_1.symm.trans hx189_1)
                         injection ea_ with ea_ en_ ec_
                         subst ea_
                         subst ec_
                         clear en_
                         have p190 : 0 ≤ (x14_6 : Int) := of_decide_eq_true (by first | (with_reducible assumption) | assumption)
                         have q190 : x14_6 < (t168.length : Int) := of_decide_eq_true (by first | (with_reducible assumption) | assumption)
                         obtain ⟨ad190, A190_1, c190_1, e190, hx190_0, hx190_1, hx190_2, hx190_3, hx190_4, hx190_5, hx190_6, hl190_1, hi190_1⟩ := at_T31 (Kd.S_reads' HO_4.out).2.2 x14_6 p190 q190
                         cases e190
                         obtain ⟨ce190, hce190, hMe190, hcc190⟩ := Kd.S_get HO_4.out z31 x14_6 p190 (by first | exact q190 | exact of_decide_eq_true (by first | (with_reducible assumption) | assumption) | (have e_ := (Kd.S_reads' HO_4.out).1; omega))
                         obtain ⟨ve190_1, rfl, ge190_1⟩ := k31_openM hMe190
                         have hv190_1 := hcc190 1 _ rfl
                         rw [add_field _ _ 1 (by omega)] at hv190_1
                         replace hv190_1 := Option.some.inj (hv190_1.symm.trans hx190_1)
                         rw [hv190_1] at ge190_1
                         have HL190_1 := Aside0.mk (show Kd.R (Kd.int .u8) 5 _ _ _ _ ((rd_T31 t168 x14_6).f1) from ge190_1)
                         clear hv190_1 ge190_1
                         clear hcc190 hce190
                         have HR190_1 := Aside0.mk hi190_1
                         have HC190_1 := Aside0.mk hl190_1
                         clear hi190_1 hl190_1
                         replace p190 := eq_true p190
                         replace q190 := eq_true q190
                         go_wp2
                         repeat (go_quiet (fail); try go_wp2)
                         go_roundg k6
                         case measure => have := HJ10.out; have := HK2.out; have := HJ23.out; have := HJ27.out; have := HJ33.out; have := HK6.out; omega
                         case rel => exact ⟨(wrap64 (x14_6 + 1)), (by first | rfl | (simp; done) | (simp [*]; done)), H', ⟨by have := HJ10.out; have := HK2.out; have := HJ23.out; have := HJ27.out; have := HJ33.out; have := HK6.out; omega⟩, ⟨by (with_reducible repeat (first | apply Kd.S_alloc | apply Kd.S_drewN | apply Kd.S_drew)); exact HO_4.out⟩, ⟨by repeat (first | (with_reducible first | exact HB.out | apply below_alloc | apply pw_below_drewN | apply below_drew1) | exact HB.out)⟩⟩
                        ·
                         rw [if_neg c45] at H
                         have c45b0 : (((rd_T31 l0 x14_6).f3).toList == ((rd_T31 t168 x14_6).f3).toList) = false := beq_eq_false_iff_ne.mpr c45
                         have c45b1 : (((rd_T31 l0 x14_6).f3).toList != ((rd_T31 t168 x14_6).f3).toList) = true := bne_iff_ne.mpr c45
                         by_cases c46 : 0 ≤ x10_2
                         ·
                          rw [if_pos c46] at H
                          have c46b0 : decide (0 ≤ x10_2) = true := decide_eq_true c46
                          clear c46
                          by_cases c47 : x10_2 < (t168.length : Int)
                          ·
                           rw [if_pos c47] at H
                           have c47b0 : decide (x10_2 < (t168.length : Int)) = true := decide_eq_true c47
                           clear c47
                           by_cases c48 : ((rd_T31 t168 x14_6).f3).toList = ((rd_T31 t168 x10_2).f3).toList
                           ·
                            rw [if_pos c48] at H
                            exact absurd H (by simp)
                           ·
                            rw [if_neg c48] at H
                            have c48b0 : (((rd_T31 t168 x14_6).f3).toList == ((rd_T31 t168 x10_2).f3).toList) = false := beq_eq_false_iff_ne.mpr c48
                            have c48b1 : (((rd_T31 t168 x14_6).f3).toList != ((rd_T31 t168 x10_2).f3).toList) = true := bne_iff_ne.mpr c48
                            have H' := Aside0.mk H
                            clear H
                            have p188 : 0 ≤ (x14_6 : Int) := of_decide_eq_true (by first | (with_reducible assumption) | assumption)
                            have q188 : x14_6 < (l0.length : Int) := of_decide_eq_true (by first | (with_reducible assumption) | assumption)
                            obtain ⟨ad188, A188_1, c188_1, e188, hx188_0, hx188_1, hx188_2, hx188_3, hx188_4, hx188_5, hx188_6, hl188_1, hi188_1⟩ := at_T31 HR0.out x14_6 p188 q188
                            cases e188
                            replace hx188_0 := (HB.out.cell (World.block_lt_of_cell? w _ hx188_0)).trans hx188_0
                            replace hx188_1 := (HB.out.cell (World.block_lt_of_cell? w _ hx188_1)).trans hx188_1
                            replace hx188_2 := (HB.out.cell (World.block_lt_of_cell? w _ hx188_2)).trans hx188_2
                            replace hx188_3 := (HB.out.cell (World.block_lt_of_cell? w _ hx188_3)).trans hx188_3
                            replace hx188_4 := (HB.out.cell (World.block_lt_of_cell? w _ hx188_4)).trans hx188_4
                            replace hx188_5 := (HB.out.cell (World.block_lt_of_cell? w _ hx188_5)).trans hx188_5
                            replace hx188_6 := (HB.out.cell (World.block_lt_of_cell? w _ hx188_6)).trans hx188_6
                            have HR188_1 := Aside0.mk hi188_1
                            have HC188_1 := Aside0.mk hl188_1
                            clear hi188_1 hl188_1
                            replace p188 := eq_true p188
                            replace q188 := eq_true q188
                            have p189 : 0 ≤ (x14_6 : Int) := of_decide_eq_true (by first | (with_reducible assumption) | assumption)
                            have q189 : x14_6 < (l0.length : Int) := of_decide_eq_true (by first | (with_reducible assumption) | assumption)
                            obtain ⟨ad189, A189_1, c189_1, e189, hx189_0, hx189_1, hx189_2, hx189_3, hx189_4, hx189_5, hx189_6, hl189_1, hi189_1⟩ := at_T31 HR0.out x14_6 p189 q189
                            obtain rfl : ad188 = ad189 := (by injection e189)
                            replace hx189_0 := (HB.out.cell (World.block_lt_of_cell? w _ hx189_0)).trans hx189_0
                            replace hx189_1 := (HB.out.cell (World.block_lt_of_cell? w _ hx189_1)).trans hx189_1
                            replace hx189_2 := (HB.out.cell (World.block_lt_of_cell? w _ hx189_2)).trans hx189_2
                            replace hx189_3 := (HB.out.cell (World.block_lt_of_cell? w _ hx189_3)).trans hx189_3
                            replace hx189_4 := (HB.out.cell (World.block_lt_of_cell? w _ hx189_4)).trans hx189_4
                            replace hx189_5 := (HB.out.cell (World.block_lt_of_cell? w _ hx189_5)).trans hx189_5
                            replace hx189_6 := (HB.out.cell (World.block_lt_of_cell? w _ hx189_6)).trans hx189_6
                            have HR189_1 := Aside0.mk hi189_1
                            have HC189_1 := Aside0.mk hl189_1
                            clear hi189_1 hl189_1
                            replace p189 := eq_true p189
                            replace q189 := eq_true q189
                            have ea_ := Option.some.inj (hx188_1.symm.trans hx189_1)
                            injection ea_ with ea_ en_ ec_
                            subst ea_
                            subst ec_
                            clear en_
                            have p190 : 0 ≤ (x14_6 : Int) := of_decide_eq_true (by first | (with_reducible assumption) | assumption)
                            have q190 : x14_6 < (t168.length : Int) := of_decide_eq_true (by first | (with_reducible assumption) | assumption)
                            obtain ⟨ad190, A190_1, c190_1, e190, hx190_0, hx190_1, hx190_2, hx190_3, hx190_4, hx190_5, hx190_6, hl190_1, hi190_1⟩ := at_T31 (Kd.S_reads' HO_4.out).2.2 x14_6 p190 q190
                            cases e190
                            obtain ⟨ce190, hce190, hMe190, hcc190⟩ := Kd.S_get HO_4.out z31 x14_6 p190 (by first | exact q190 | exact of_decide_eq_true (by first | (with_reducible assumption) | assumption) | (have e_ := (Kd.S_reads' HO_4.out).1; omega))
                            obtain ⟨ve190_1, rfl, ge190_1⟩ := k31_openM hMe190
                            have hv190_1 := hcc190 1 _ rfl
                            rw [add_field _ _ 1 (by omega)] at hv190_1
                            replace hv190_1 := Option.some.inj (hv190_1.symm.trans hx190_1)
                            rw [hv190_1] at ge190_1
                            have HL190_1 := Aside0.mk (show Kd.R (Kd.int .u8) 5 _ _ _ _ ((rd_T31 t168 x14_6).f1) from ge190_1)
                            clear hv190_1 ge190_1
                            clear hcc190 hce190
                            have HR190_1 := Aside0.mk hi190_1
                            have HC190_1 := Aside0.mk hl190_1
                            clear hi190_1 hl190_1
                            replace p190 := eq_true p190
                            replace q190 := eq_true q190
                            have p191 : 0 ≤ (x14_6 : Int) := of_decide_eq_true (by first | (with_reducible assumption) | assumption)
                            have q191 : x14_6 < (t168.length : Int) := of_decide_eq_true (by first | (with_reducible assumption) | assumption)
                            obtain ⟨ad191, A191_1, c191_1, e191, hx191_0, hx191_1, hx191_2, hx191_3, hx191_4, hx191_5, hx191_6, hl191_1, hi191_1⟩ := at_T31 (Kd.S_reads' HO_4.out).2.2 x14_6 p191 q191
                            obtain rfl : ad190 = ad191 := (by injection e191)
                            obtain ⟨ce191, hce191, hMe191, hcc191⟩ := Kd.S_get HO_4.out z31 x14_6 p191 (by first | exact q191 | exact of_decide_eq_true (by first | (with_reducible assumption) | assumption) | (have e_ := (Kd.S_reads' HO_4.out).1; omega))
                            obtain ⟨ve191_1, rfl, ge191_1⟩ := k31_openM hMe191
                            have hv191_1 := hcc191 1 _ rfl
                            rw [add_field _ _ 1 (by omega)] at hv191_1
                            replace hv191_1 := Option.some.inj (hv191_1.symm.trans hx191_1)
                            rw [hv191_1] at ge191_1
                            have HL191_1 := Aside0.mk (show Kd.R (Kd.int .u8) 5 _ _ _ _ ((rd_T31 t168 x14_6).f1) from ge191_1)
                            clear hv191_1 ge191_1
                            clear hcc191 hce191
                            have HR191_1 := Aside0.mk hi191_1
                            have HC191_1 := Aside0.mk hl191_1
                            clear hi191_1 hl191_1
                            replace p191 := eq_true p191
                            replace q191 := eq_true q191
                            have ea_ := Option.some.inj (hx190_1.symm.trans hx191_1)
                            injection ea_ with ea_ en_ ec_
                            subst ea_
                            subst ec_
                            clear en_
                            have p192 : 0 ≤ (x10_2 : Int) := of_decide_eq_true (by first | (with_reducible assumption) | assumption)
                            have q192 : x10_2 < (t168.length : Int) := of_decide_eq_true (by first | (with_reducible assumption) | assumption)
                            obtain ⟨ad192, A192_1, c192_1, e192, hx192_0, hx192_1, hx192_2, hx192_3, hx192_4, hx192_5, hx192_6, hl192_1, hi192_1⟩ := at_T31 (Kd.S_reads' HO_4.out).2.2 x10_2 p192 q192
                            obtain rfl : ad190 = ad192 := (by injection e192)
                            obtain ⟨ce192, hce192, hMe192, hcc192⟩ := Kd.S_get HO_4.out z31 x10_2 p192 (by first | exact q192 | exact of_decide_eq_true (by first | (with_reducible assumption) | assumption) | (have e_ := (Kd.S_reads' HO_4.out).1; omega))
                            obtain ⟨ve192_1, rfl, ge192_1⟩ := k31_openM hMe192
                            have hv192_1 := hcc192 1 _ rfl
                            rw [add_field _ _ 1 (by omega)] at hv192_1
                            replace hv192_1 := Option.some.inj (hv192_1.symm.trans hx192_1)
                            rw [hv192_1] at ge192_1
                            have HL192_1 := Aside0.mk (show Kd.R (Kd.int .u8) 5 _ _ _ _ ((rd_T31 t168 x10_2).f1) from ge192_1)
                            clear hv192_1 ge192_1
                            clear hcc192 hce192
                            have HR192_1 := Aside0.mk hi192_1
                            have HC192_1 := Aside0.mk hl192_1
                            clear hi192_1 hl192_1
                            replace p192 := eq_true p192
                            replace q192 := eq_true q192
                            go_wp2
                            repeat (go_quiet (fail); try go_wp2)
                            go_roundg k6
                            case measure => have := HJ10.out; have := HK2.out; have := HJ23.out; have := HJ27.out; have := HJ33.out; have := HK6.out; omega
                            case rel => exact ⟨(wrap64 (x14_6 + 1)), (by first | rfl | (simp; done) | (simp [*]; done)), H', ⟨by have := HJ10.out; have := HK2.out; have := HJ23.out; have := HJ27.out; have := HJ33.out; have := HK6.out; omega⟩, ⟨by (with_reducible repeat (first | apply Kd.S_alloc | apply Kd.S_drewN | apply Kd.S_drew)); exact HO_4.out⟩, ⟨by repeat (first | (with_reducible first | exact HB.out | apply below_alloc | apply pw_below_drewN | apply below_drew1) | exact HB.out)⟩⟩
                          ·
                           rw [if_neg c47] at H
                           exact absurd H (by simp)
                         ·
                          rw [if_neg c46] at H
                          exact absurd H (by simp)
                       ·
                        rw [if_neg c44] at H
                        exact absurd H (by simp)
                      ·
                       rw [if_neg c43] at H
                       have c43b0 : (((rd_T31 l0 x14_6).f0) == 6) = false := beq_eq_false_iff_ne.mpr c43
                       have c43b1 : (((rd_T31 l0 x14_6).f0) != 6) = true := bne_iff_ne.mpr c43
                       have H' := Aside0.mk H
                       clear H
                       have p188 : 0 ≤ (x14_6 : Int) := of_decide_eq_true (by first | (with_reducible assumption) | assumption)
                       have q188 : x14_6 < (l0.length : Int) := of_decide_eq_true (by first | (with_reducible assumption) | assumption)
                       obtain ⟨ad188, A188_1, c188_1, e188, hx188_0, hx188_1, hx188_2, hx188_3, hx188_4, hx188_5, hx188_6, hl188_1, hi188_1⟩ := at_T31 HR0.out x14_6 p188 q188
                       cases e188
                       replace hx188_0 := (HB.out.cell (World.block_lt_of_cell? w _ hx188_0)).trans hx188_0
                       replace hx188_1 := (HB.out.cell (World.block_lt_of_cell? w _ hx188_1)).trans hx188_1
                       replace hx188_2 := (HB.out.cell (World.block_lt_of_cell? w _ hx188_2)).trans hx188_2
                       replace hx188_3 := (HB.out.cell (World.block_lt_of_cell? w _ hx188_3)).trans hx188_3
                       replace hx188_4 := (HB.out.cell (World.block_lt_of_cell? w _ hx188_4)).trans hx188_4
                       replace hx188_5 := (HB.out.cell (World.block_lt_of_cell? w _ hx188_5)).trans hx188_5
                       replace hx188_6 := (HB.out.cell (World.block_lt_of_cell? w _ hx188_6)).trans hx188_6
                       have HR188_1 := Aside0.mk hi188_1
                       have HC188_1 := Aside0.mk hl188_1
                       clear hi188_1 hl188_1
                       replace p188 := eq_true p188
                       replace q188 := eq_true q188
                       go_wp2
                       repeat (go_quiet (fail); try go_wp2)
                       go_roundg k6
                       case measure => have := HJ10.out; have := HK2.out; have := HJ23.out; have := HJ27.out; have := HJ33.out; have := HK6.out; omega
                       case rel => exact ⟨(wrap64 (x14_6 + 1)), (by first | rfl | (simp; done) | (simp [*]; done)), H', ⟨by have := HJ10.out; have := HK2.out; have := HJ23.out; have := HJ27.out; have := HJ33.out; have := HK6.out; omega⟩, ⟨by (with_reducible repeat (first | apply Kd.S_alloc | apply Kd.S_drewN | apply Kd.S_drew)); exact HO_4.out⟩, ⟨by repeat (first | (with_reducible first | exact HB.out | apply below_alloc | apply pw_below_drewN | apply below_drew1) | exact HB.out)⟩⟩
                     ·
                      rw [if_neg c42] at H
                      exact absurd H (by simp)
                    ·
                     rw [if_neg c41] at H
                     exact absurd H (by simp)
                   ·
                    rw [if_neg c40] at H
                    have c40b0 : decide (x14_6 < x10_2) = false := decide_eq_false c40
                    clear c40
                    have H' := Aside0.mk H
                    clear H
                    go_wp2
                    repeat (go_quiet (fail); try go_wp2)
                    go_roundg k6
                    case measure => have := HJ10.out; have := HK2.out; have := HJ23.out; have := HJ27.out; have := HJ33.out; have := HK6.out; omega
                    case rel => exact ⟨(wrap64 (x10_2 + 1)), (by first | rfl | (simp; done) | (simp [*]; done)), H', ⟨by have := HJ10.out; have := HK2.out; have := HJ23.out; have := HJ27.out; have := HJ33.out; have := HK6.out; omega⟩, ⟨by (with_reducible repeat (first | apply Kd.S_alloc | apply Kd.S_drewN | apply Kd.S_drew)); exact HO_4.out⟩, ⟨by repeat (first | (with_reducible first | exact HB.out | apply below_alloc | apply pw_below_drewN | apply below_drew1) | exact HB.out)⟩⟩
         ·
          rw [if_neg c23] at H
          have c23b0 : decide (x10_2 < (l0.length : Int)) = false := decide_eq_false c23
          clear c23
          obtain rfl := Option.some.inj H
          go_wp2
          repeat (go_quiet (fail); try go_wp2)
          go_ret
          exact ⟨by first | rfl | (simp [errW_none, errW_some] <;> rfl) | (simp [*, errW_none, errW_some] <;> rfl), by repeat (first | (with_reducible first | exact HB.out | apply below_alloc | apply pw_below_drewN | apply below_drew1) | exact HB.out)⟩
   ·
    rw [if_neg c9] at H
    have c9b0 : (t170 == 0) = false := beq_eq_false_iff_ne.mpr c9
    have c9b1 : (t170 != 0) = true := bne_iff_ne.mpr c9
    by_cases c49 : (t168.length : Int) = 0
    ·
     rw [if_pos c49] at H
     have c49b0 : ((t168.length : Int) == 0) = true := beq_iff_eq.mpr c49
     have c49b1 : ((t168.length : Int) != 0) = false := bne_eq_false_iff_eq.mpr c49
     clear c49
     by_cases c50 : t170 = 4
     ·
      rw [if_pos c50] at H
      have c50b0 : (t170 == 4) = true := beq_iff_eq.mpr c50
      have c50b1 : (t170 != 4) = false := bne_eq_false_iff_eq.mpr c50
      clear c50
      obtain rfl := Option.some.inj H
      go_enter Tryd.func3, Tryd.ntmps3
      go_wp2_with (first | (go_at_call 8; (with_reducible refine (quoinlaw21_alive.calls  true _ ?side1 A2.out).mono ?_); (case side1 => exact Lib.tabBelow_of_tabIs HT.out _ (by repeat (first | (with_reducible first | exact HB.out | apply below_alloc | apply pw_below_drewN | apply below_drew1) | exact HB.out))); rintro e w51 ⟨rfl, hb⟩; have n0_ := Aside0.mk (below_step (by repeat (first | (with_reducible first | exact HB.out | apply below_alloc | apply pw_below_drewN | apply below_drew1) | exact HB.out)) hb); clear HB; have HB := n0_; clear n0_; (try clear hb); (try clear hb2); (try clear hk); (try clear hi)) | (go_at_call 9; (with_reducible refine (quoinref20_Great.calls k _ _ l0 false _ ?side1 ?side2 A4.out).mono ?_); (case side1 => repeat (first | exact (Kd.C_below HR0.out HB.out) | (with_reducible refine Kd.C_alloc ?_ _) | (with_reducible refine Kd.C_drewN ?_ _) | (with_reducible refine Kd.C_drew ?_))); (case side2 => exact HC0.out); rintro e w52 ⟨rfl, hb⟩; have n0_ := Aside0.mk (below_step (by repeat (first | (with_reducible first | exact HB.out | apply below_alloc | apply pw_below_drewN | apply below_drew1) | exact HB.out)) hb); clear HB; have HB := n0_; clear n0_; (try clear hb); (try clear hb2); (try clear hk); (try clear hi)) | (go_at_call 10; (with_reducible refine (labels_Rename.calls _ _ l0 t168 t169 t170 _ ?side1 ?side2 ?side3 A8.out).mono ?_); (case side1 => repeat (first | exact (Kd.C_below HR0.out HB.out) | (with_reducible refine Kd.C_alloc ?_ _) | (with_reducible refine Kd.C_drewN ?_ _) | (with_reducible refine Kd.C_drew ?_))); (case side2 => exact HC0.out); (case side3 => exact Lib.tabBelow_of_tabIs HT.out _ (by repeat (first | (with_reducible first | exact HB.out | apply below_alloc | apply pw_below_drewN | apply below_drew1) | exact HB.out))); rintro e w53 ⟨v171, rfl, ho0, hb⟩; have n0_ := Aside0.mk (Kd.S_lower ho0 (below_size (by repeat (first | (with_reducible first | exact HB.out | apply below_alloc | apply pw_below_drewN | apply below_drew1) | exact HB.out)))); have n1_ := Aside0.mk (below_step (by repeat (first | (with_reducible first | exact HB.out | apply below_alloc | apply pw_below_drewN | apply below_drew1) | exact HB.out)) hb); clear HB; have HO172 := n0_; have HB := n1_; clear n0_ n1_; (try clear hb); (try clear hb2); (try clear hk); (try clear hi); (try clear ho0); obtain ⟨Ao54, co54, eo54⟩ := Kd.S_slice HO172.out; subst eo54))
      repeat (go_quiet (first | (go_at_call 8; (with_reducible refine (quoinlaw21_alive.calls  true _ ?side1 A2.out).mono ?_); (case side1 => exact Lib.tabBelow_of_tabIs HT.out _ (by repeat (first | (with_reducible first | exact HB.out | apply below_alloc | apply pw_below_drewN | apply below_drew1) | exact HB.out))); rintro e w51 ⟨rfl, hb⟩; have n0_ := Aside0.mk (below_step (by repeat (first | (with_reducible first | exact HB.out | apply below_alloc | apply pw_below_drewN | apply below_drew1) | exact HB.out)) hb); clear HB; have HB := n0_; clear n0_; (try clear hb); (try clear hb2); (try clear hk); (try clear hi)) | (go_at_call 9; (with_reducible refine (quoinref20_Great.calls k _ _ l0 false _ ?side1 ?side2 A4.out).mono ?_); (case side1 => repeat (first | exact (Kd.C_below HR0.out HB.out) | (with_reducible refine Kd.C_alloc ?_ _) | (with_reducible refine Kd.C_drewN ?_ _) | (with_reducible refine Kd.C_drew ?_))); (case side2 => exact HC0.out); rintro e w52 ⟨rfl, hb⟩; have n0_ := Aside0.mk (below_step (by repeat (first | (with_reducible first | exact HB.out | apply below_alloc | apply pw_below_drewN | apply below_drew1) | exact HB.out)) hb); clear HB; have HB := n0_; clear n0_; (try clear hb); (try clear hb2); (try clear hk); (try clear hi)) | (go_at_call 10; (with_reducible refine (labels_Rename.calls _ _ l0 t168 t169 t170 _ ?side1 ?side2 ?side3 A8.out).mono ?_); (case side1 => repeat (first | exact (Kd.C_below HR0.out HB.out) | (with_reducible refine Kd.C_alloc ?_ _) | (with_reducible refine Kd.C_drewN ?_ _) | (with_reducible refine Kd.C_drew ?_))); (case side2 => exact HC0.out); (case side3 => exact Lib.tabBelow_of_tabIs HT.out _ (by repeat (first | (with_reducible first | exact HB.out | apply below_alloc | apply pw_below_drewN | apply below_drew1) | exact HB.out))); rintro e w53 ⟨v171, rfl, ho0, hb⟩; have n0_ := Aside0.mk (Kd.S_lower ho0 (below_size (by repeat (first | (with_reducible first | exact HB.out | apply below_alloc | apply pw_below_drewN | apply below_drew1) | exact HB.out)))); have n1_ := Aside0.mk (below_step (by repeat (first | (with_reducible first | exact HB.out | apply below_alloc | apply pw_below_drewN | apply below_drew1) | exact HB.out)) hb); clear HB; have HO172 := n0_; have HB := n1_; clear n0_ n1_; (try clear hb); (try clear hb2); (try clear hk); (try clear hi); (try clear ho0); obtain ⟨Ao54, co54, eo54⟩ := Kd.S_slice HO172.out; subst eo54)); try go_wp2_with (first | (go_at_call 8; (with_reducible refine (quoinlaw21_alive.calls  true _ ?side1 A2.out).mono ?_); (case side1 => exact Lib.tabBelow_of_tabIs HT.out _ (by repeat (first | (with_reducible first | exact HB.out | apply below_alloc | apply pw_below_drewN | apply below_drew1) | exact HB.out))); rintro e w51 ⟨rfl, hb⟩; have n0_ := Aside0.mk (below_step (by repeat (first | (with_reducible first | exact HB.out | apply below_alloc | apply pw_below_drewN | apply below_drew1) | exact HB.out)) hb); clear HB; have HB := n0_; clear n0_; (try clear hb); (try clear hb2); (try clear hk); (try clear hi)) | (go_at_call 9; (with_reducible refine (quoinref20_Great.calls k _ _ l0 false _ ?side1 ?side2 A4.out).mono ?_); (case side1 => repeat (first | exact (Kd.C_below HR0.out HB.out) | (with_reducible refine Kd.C_alloc ?_ _) | (with_reducible refine Kd.C_drewN ?_ _) | (with_reducible refine Kd.C_drew ?_))); (case side2 => exact HC0.out); rintro e w52 ⟨rfl, hb⟩; have n0_ := Aside0.mk (below_step (by repeat (first | (with_reducible first | exact HB.out | apply below_alloc | apply pw_below_drewN | apply below_drew1) | exact HB.out)) hb); clear HB; have HB := n0_; clear n0_; (try clear hb); (try clear hb2); (try clear hk); (try clear hi)) | (go_at_call 10; (with_reducible refine (labels_Rename.calls _ _ l0 t168 t169 t170 _ ?side1 ?side2 ?side3 A8.out).mono ?_); (case side1 => repeat (first | exact (Kd.C_below HR0.out HB.out) | (with_reducible refine Kd.C_alloc ?_ _) | (with_reducible refine Kd.C_drewN ?_ _) | (with_reducible refine Kd.C_drew ?_))); (case side2 => exact HC0.out); (case side3 => exact Lib.tabBelow_of_tabIs HT.out _ (by repeat (first | (with_reducible first | exact HB.out | apply below_alloc | apply pw_below_drewN | apply below_drew1) | exact HB.out))); rintro e w53 ⟨v171, rfl, ho0, hb⟩; have n0_ := Aside0.mk (Kd.S_lower ho0 (below_size (by repeat (first | (with_reducible first | exact HB.out | apply below_alloc | apply pw_below_drewN | apply below_drew1) | exact HB.out)))); have n1_ := Aside0.mk (below_step (by repeat (first | (with_reducible first | exact HB.out | apply below_alloc | apply pw_below_drewN | apply below_drew1) | exact HB.out)) hb); clear HB; have HO172 := n0_; have HB := n1_; clear n0_ n1_; (try clear hb); (try clear hb2); (try clear hk); (try clear hi); (try clear ho0); obtain ⟨Ao54, co54, eo54⟩ := Kd.S_slice HO172.out; subst eo54)))
      go_ret
      exact ⟨by first | rfl | (simp [errW_none, errW_some] <;> rfl) | (simp [*, errW_none, errW_some] <;> rfl), by repeat (first | (with_reducible first | exact HB.out | apply below_alloc | apply pw_below_drewN | apply below_drew1) | exact HB.out)⟩
     ·
      rw [if_neg c50] at H
      have c50b0 : (t170 == 4) = false := beq_eq_false_iff_ne.mpr c50
      have c50b1 : (t170 != 4) = true := bne_iff_ne.mpr c50
      obtain rfl := Option.some.inj H
      go_enter Tryd.func3, Tryd.ntmps3
      go_wp2_with (first | (go_at_call 8; (with_reducible refine (quoinlaw21_alive.calls  true _ ?side1 A2.out).mono ?_); (case side1 => exact Lib.tabBelow_of_tabIs HT.out _ (by repeat (first | (with_reducible first | exact HB.out | apply below_alloc | apply pw_below_drewN | apply below_drew1) | exact HB.out))); rintro e w55 ⟨rfl, hb⟩; have n0_ := Aside0.mk (below_step (by repeat (first | (with_reducible first | exact HB.out | apply below_alloc | apply pw_below_drewN | apply below_drew1) | exact HB.out)) hb); clear HB; have HB := n0_; clear n0_; (try clear hb); (try clear hb2); (try clear hk); (try clear hi)) | (go_at_call 9; (with_reducible refine (quoinref20_Great.calls k _ _ l0 false _ ?side1 ?side2 A4.out).mono ?_); (case side1 => repeat (first | exact (Kd.C_below HR0.out HB.out) | (with_reducible refine Kd.C_alloc ?_ _) | (with_reducible refine Kd.C_drewN ?_ _) | (with_reducible refine Kd.C_drew ?_))); (case side2 => exact HC0.out); rintro e w56 ⟨rfl, hb⟩; have n0_ := Aside0.mk (below_step (by repeat (first | (with_reducible first | exact HB.out | apply below_alloc | apply pw_below_drewN | apply below_drew1) | exact HB.out)) hb); clear HB; have HB := n0_; clear n0_; (try clear hb); (try clear hb2); (try clear hk); (try clear hi)) | (go_at_call 10; (with_reducible refine (labels_Rename.calls _ _ l0 t168 t169 t170 _ ?side1 ?side2 ?side3 A8.out).mono ?_); (case side1 => repeat (first | exact (Kd.C_below HR0.out HB.out) | (with_reducible refine Kd.C_alloc ?_ _) | (with_reducible refine Kd.C_drewN ?_ _) | (with_reducible refine Kd.C_drew ?_))); (case side2 => exact HC0.out); (case side3 => exact Lib.tabBelow_of_tabIs HT.out _ (by repeat (first | (with_reducible first | exact HB.out | apply below_alloc | apply pw_below_drewN | apply below_drew1) | exact HB.out))); rintro e w57 ⟨v171, rfl, ho0, hb⟩; have n0_ := Aside0.mk (Kd.S_lower ho0 (below_size (by repeat (first | (with_reducible first | exact HB.out | apply below_alloc | apply pw_below_drewN | apply below_drew1) | exact HB.out)))); have n1_ := Aside0.mk (below_step (by repeat (first | (with_reducible first | exact HB.out | apply below_alloc | apply pw_below_drewN | apply below_drew1) | exact HB.out)) hb); clear HB; have HO172 := n0_; have HB := n1_; clear n0_ n1_; (try clear hb); (try clear hb2); (try clear hk); (try clear hi); (try clear ho0); obtain ⟨Ao58, co58, eo58⟩ := Kd.S_slice HO172.out; subst eo58))
      repeat (go_quiet (first | (go_at_call 8; (with_reducible refine (quoinlaw21_alive.calls  true _ ?side1 A2.out).mono ?_); (case side1 => exact Lib.tabBelow_of_tabIs HT.out _ (by repeat (first | (with_reducible first | exact HB.out | apply below_alloc | apply pw_below_drewN | apply below_drew1) | exact HB.out))); rintro e w55 ⟨rfl, hb⟩; have n0_ := Aside0.mk (below_step (by repeat (first | (with_reducible first | exact HB.out | apply below_alloc | apply pw_below_drewN | apply below_drew1) | exact HB.out)) hb); clear HB; have HB := n0_; clear n0_; (try clear hb); (try clear hb2); (try clear hk); (try clear hi)) | (go_at_call 9; (with_reducible refine (quoinref20_Great.calls k _ _ l0 false _ ?side1 ?side2 A4.out).mono ?_); (case side1 => repeat (first | exact (Kd.C_below HR0.out HB.out) | (with_reducible refine Kd.C_alloc ?_ _) | (with_reducible refine Kd.C_drewN ?_ _) | (with_reducible refine Kd.C_drew ?_))); (case side2 => exact HC0.out); rintro e w56 ⟨rfl, hb⟩; have n0_ := Aside0.mk (below_step (by repeat (first | (with_reducible first | exact HB.out | apply below_alloc | apply pw_below_drewN | apply below_drew1) | exact HB.out)) hb); clear HB; have HB := n0_; clear n0_; (try clear hb); (try clear hb2); (try clear hk); (try clear hi)) | (go_at_call 10; (with_reducible refine (labels_Rename.calls _ _ l0 t168 t169 t170 _ ?side1 ?side2 ?side3 A8.out).mono ?_); (case side1 => repeat (first | exact (Kd.C_below HR0.out HB.out) | (with_reducible refine Kd.C_alloc ?_ _) | (with_reducible refine Kd.C_drewN ?_ _) | (with_reducible refine Kd.C_drew ?_))); (case side2 => exact HC0.out); (case side3 => exact Lib.tabBelow_of_tabIs HT.out _ (by repeat (first | (with_reducible first | exact HB.out | apply below_alloc | apply pw_below_drewN | apply below_drew1) | exact HB.out))); rintro e w57 ⟨v171, rfl, ho0, hb⟩; have n0_ := Aside0.mk (Kd.S_lower ho0 (below_size (by repeat (first | (with_reducible first | exact HB.out | apply below_alloc | apply pw_below_drewN | apply below_drew1) | exact HB.out)))); have n1_ := Aside0.mk (below_step (by repeat (first | (with_reducible first | exact HB.out | apply below_alloc | apply pw_below_drewN | apply below_drew1) | exact HB.out)) hb); clear HB; have HO172 := n0_; have HB := n1_; clear n0_ n1_; (try clear hb); (try clear hb2); (try clear hk); (try clear hi); (try clear ho0); obtain ⟨Ao58, co58, eo58⟩ := Kd.S_slice HO172.out; subst eo58)); try go_wp2_with (first | (go_at_call 8; (with_reducible refine (quoinlaw21_alive.calls  true _ ?side1 A2.out).mono ?_); (case side1 => exact Lib.tabBelow_of_tabIs HT.out _ (by repeat (first | (with_reducible first | exact HB.out | apply below_alloc | apply pw_below_drewN | apply below_drew1) | exact HB.out))); rintro e w55 ⟨rfl, hb⟩; have n0_ := Aside0.mk (below_step (by repeat (first | (with_reducible first | exact HB.out | apply below_alloc | apply pw_below_drewN | apply below_drew1) | exact HB.out)) hb); clear HB; have HB := n0_; clear n0_; (try clear hb); (try clear hb2); (try clear hk); (try clear hi)) | (go_at_call 9; (with_reducible refine (quoinref20_Great.calls k _ _ l0 false _ ?side1 ?side2 A4.out).mono ?_); (case side1 => repeat (first | exact (Kd.C_below HR0.out HB.out) | (with_reducible refine Kd.C_alloc ?_ _) | (with_reducible refine Kd.C_drewN ?_ _) | (with_reducible refine Kd.C_drew ?_))); (case side2 => exact HC0.out); rintro e w56 ⟨rfl, hb⟩; have n0_ := Aside0.mk (below_step (by repeat (first | (with_reducible first | exact HB.out | apply below_alloc | apply pw_below_drewN | apply below_drew1) | exact HB.out)) hb); clear HB; have HB := n0_; clear n0_; (try clear hb); (try clear hb2); (try clear hk); (try clear hi)) | (go_at_call 10; (with_reducible refine (labels_Rename.calls _ _ l0 t168 t169 t170 _ ?side1 ?side2 ?side3 A8.out).mono ?_); (case side1 => repeat (first | exact (Kd.C_below HR0.out HB.out) | (with_reducible refine Kd.C_alloc ?_ _) | (with_reducible refine Kd.C_drewN ?_ _) | (with_reducible refine Kd.C_drew ?_))); (case side2 => exact HC0.out); (case side3 => exact Lib.tabBelow_of_tabIs HT.out _ (by repeat (first | (with_reducible first | exact HB.out | apply below_alloc | apply pw_below_drewN | apply below_drew1) | exact HB.out))); rintro e w57 ⟨v171, rfl, ho0, hb⟩; have n0_ := Aside0.mk (Kd.S_lower ho0 (below_size (by repeat (first | (with_reducible first | exact HB.out | apply below_alloc | apply pw_below_drewN | apply below_drew1) | exact HB.out)))); have n1_ := Aside0.mk (below_step (by repeat (first | (with_reducible first | exact HB.out | apply below_alloc | apply pw_below_drewN | apply below_drew1) | exact HB.out)) hb); clear HB; have HO172 := n0_; have HB := n1_; clear n0_ n1_; (try clear hb); (try clear hb2); (try clear hk); (try clear hi); (try clear ho0); obtain ⟨Ao58, co58, eo58⟩ := Kd.S_slice HO172.out; subst eo58)))
      go_ret
      exact ⟨by first | rfl | (simp [errW_none, errW_some] <;> rfl) | (simp [*, errW_none, errW_some] <;> rfl), by repeat (first | (with_reducible first | exact HB.out | apply below_alloc | apply pw_below_drewN | apply below_drew1) | exact HB.out)⟩
    ·
     rw [if_neg c49] at H
     exact absurd H (by simp)
 ·
  replace c3 := Bool.eq_false_iff.mpr c3
  (try subst c3)
  have H1 : (none) = some r := by first | (rw [if_neg (show ¬ (false = true) by decide)] at H; exact H) | exact absurd c3 (by decide)
  clear H
  have H := H1
  clear H1
  exact absurd H (by simp)

/-- THE ONE PURE STATEMENT of quoinlaw21_LabelsOnce: yours. -/
def quoinlaw21_LabelsOnce.Pure : Prop := ∀ (l0 : List (S31)), (l0.length ≤ maxLen ∧ ∀ x0_ ∈ l0, wfS31 x0_) → ∃ k, quoinlaw21_LabelsOnce.f k l0 = some true
theorem quoinlaw21_LabelsOnce.walk (P : quoinlaw21_LabelsOnce.Pure) (A0 : Option Addr) (c0 : Nat) (l0 : List (S31)) (w : World) (hr0 : Kd.C k31 w A0 l0.length l0) (hc0 : l0.length ≤ c0) (hT : Lib.TabIs Tryd.prog w "internal/strconv.uint64pow10" .u64 Lib.pow10Tab) (w0_0 : (l0.length ≤ maxLen ∧ ∀ x0_ ∈ l0, wfS31 x0_)) :
  Calls Tryd.prog 3 #[.slice A0 l0.length c0] w fun e w' => e = .returned (.bool true) ∧ Below w.heap.size w w' := by
 obtain ⟨k, h⟩ := P l0 w0_0
 refine (quoinlaw21_LabelsOnce.calls k A0 c0 l0 true w hr0 hc0 hT h).mono ?_
 rintro e w' ⟨rfl, hd⟩
 exact ⟨rfl, hd⟩

end Go.Proofs.YtkjmbfabgkppaaaDoor.P
