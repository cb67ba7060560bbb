-- Written by pext.py, a program of this session, over the kit's print: a function's contract
import Derived.Test.YtgihgmniijhfoaaDoorPx0
import Derived.Test.YtgihgmniijhfoaaDoorPx1
import Derived.Test.YtgihgmniijhfoaaDoorPx6
import Derived.Test.YtgihgmniijhfoaaDoorPx8
import Derived.Test.YtgihgmniijhfoaaDoorPx9
import Derived.Test.YtgihgmniijhfoaaDoorPx10
import Derived.Test.YtgihgmniijhfoaaDoorPx11
namespace Go.Proofs.YtgihgmniijhfoaaDoor.P
open Go.RowKit Go.Proofs.YtgihgmniijhfoaaDoorW.PrintWords Go.Proofs.YtgihgmniijhfoaaDoorW.PrintLast Go.Proofs.YtgihgmniijhfoaaDoorW.PrintMore
attribute [local go_sem] max2_int min2_int max_two min_two max_three min_three max_four min_four   -- for this text's walks alone
set_option linter.unusedVariables false
set_option linter.unusedSimpArgs false

attribute [local go_sem high] eqA23
/-! ### quoinlaw16_ExprOnly: function 8 -/
def quoinlaw16_ExprOnly.j0 : Nat → List (S41) → Int → Bool → Bool → Option (Bool)
 | 0, _, _, _, _ => none
 | k + 1, x0, x1, x5, x23 => if x23 = true then (some x5) else ((expr_Parse.f x0 x1).bind fun bt464 => (if bt464.2.2.2.2.2 = 0 then (if 0 ≤ bt464.2.2.2.2.1 then (if bt464.2.2.2.2.1 ≤ (x0.length : Int) then ((expr_Parse.f (x0.take (bt464.2.2.2.2.1 : Int).toNat) x1).bind fun bt475 => ((expr_Tokens.f bt464.1 bt464.2.1 bt464.2.2.1 bt464.2.2.2.1).bind fun bt482 => ((expr_Parse.f bt482.1 0).bind fun bt486 => (if bt464.2.2.2.2.1 > x1 then (if bt475.2.2.2.2.2 = 0 then (if (bt475.1.toList == bt464.1.toList && (bt475.2.1.toList == bt464.2.1.toList && (bt475.2.2.1 == bt464.2.2.1 && (bt475.2.2.2.1 == bt464.2.2.2.1)))) = true then (if bt475.2.2.2.2.1 = bt464.2.2.2.2.1 then (if bt482.2 = 0 then (if bt486.2.2.2.2.2 = 0 then (if (bt486.1.toList == bt464.1.toList && (bt486.2.1.toList == bt464.2.1.toList && (bt486.2.2.1 == bt464.2.2.1 && (bt486.2.2.2.1 == bt464.2.2.2.1)))) = true then (if bt486.2.2.2.2.1 = (bt482.1.length : Int) then ((expr_Check.f k bt464.1 bt464.2.1 bt464.2.2.1 bt464.2.2.2.1).bind fun t493 => (some (t493 == 0))) else (none)) else (none)) else (none)) else (none)) else (none)) else (none)) else (none)) else (none))))) else (none)) else (none)) else (if bt464.2.2.2.2.1 = 0 then (some (bt464.1.toList == ([] : List UInt8) && (bt464.2.1.toList == ([] : List UInt8) && (bt464.2.2.1 == 0 && (bt464.2.2.2.1 == 0))))) else (none))))
def quoinlaw16_ExprOnly.f (k : Nat) (l0 : List (S41)) (a1 : Int) : Option (Bool) := (quoinlaw16_alive.f).bind fun t462 => ((quoinref15_Great.f k l0).bind fun t463 => (if t463 = true then (quoinlaw16_ExprOnly.j0 k l0 a1 t462 true) else (quoinlaw16_ExprOnly.j0 k l0 a1 t462 (!t462))))
theorem quoinlaw16_ExprOnly.mono_l : ∀ k, (∀ y0 y1 y2 y3, LeO (quoinlaw16_ExprOnly.j0 k y0 y1 y2 y3) (quoinlaw16_ExprOnly.j0 (k + 1) y0 y1 y2 y3))
 | 0 => fun _ _ _ _ r h => by simp [quoinlaw16_ExprOnly.j0] at h
 | k + 1 => by
  have ih0 := quoinlaw16_ExprOnly.mono_l k
  ·
   intro y0 y1 y2 y3
   unfold quoinlaw16_ExprOnly.j0
   repeat' first
   | (with_reducible exact ih0 _ _ _ _)
   | (with_reducible exact expr_Check.mono _ _ _ _ _)
   | (with_reducible exact quoinref15_Great.mono _ _)
   | (with_reducible exact LeO.refl _)
   | (with_reducible exact LeO.none _)
   | (with_reducible refine LeO.ite ?_ ?_)
   | (with_reducible refine LeO.bind ?_ (fun _ => ?_))
   | exact ih0 _ _ _ _
   | exact expr_Check.mono _ _ _ _ _
   | exact quoinref15_Great.mono _ _
   | exact LeO.none _
   | refine LeO.ite ?_ ?_
   | refine LeO.bind ?_ (fun _ => ?_)
theorem quoinlaw16_ExprOnly.mono : ∀ a0 a1 k, LeO (quoinlaw16_ExprOnly.f k a0 a1) (quoinlaw16_ExprOnly.f (k + 1) a0 a1) := by
 intro a0 a1 k
 have ih0 := quoinlaw16_ExprOnly.mono_l k
 unfold quoinlaw16_ExprOnly.f
 repeat' first
   | (with_reducible exact ih0 _ _ _ _)
   | (with_reducible exact expr_Check.mono _ _ _ _ _)
   | (with_reducible exact quoinref15_Great.mono _ _)
   | (with_reducible exact LeO.refl _)
   | (with_reducible exact LeO.none _)
   | (with_reducible refine LeO.ite ?_ ?_)
   | (with_reducible refine LeO.bind ?_ (fun _ => ?_))
   | exact ih0 _ _ _ _
   | exact expr_Check.mono _ _ _ _ _
   | exact quoinref15_Great.mono _ _
   | exact LeO.none _
   | refine LeO.ite ?_ ?_
   | refine LeO.bind ?_ (fun _ => ?_)
set_option maxHeartbeats 8000000 in
set_option maxRecDepth 100000 in
theorem quoinlaw16_ExprOnly.calls (k : Nat) (A0 : Option Addr) (c0 : Nat) (l0 : List (S41)) (a1 : Int) (r : Bool) (w : World) (hr0 : Kd.C k41 w A0 l0.length l0) (hc0 : l0.length ≤ c0) (hT : Lib.TabIs Tryd.prog w "internal/strconv.uint64pow10" .u64 Lib.pow10Tab) (hD : LexW.LexD w) (hE : LexW.LexE w) (hM : ExW.ModsAt w) (h : quoinlaw16_ExprOnly.f k l0 a1 = some r) :
  Calls Tryd.prog 8 #[.slice A0 l0.length c0, .int .i64 a1] w fun e w' => e = .returned (.bool r) ∧ Below w.heap.size w w' := by
 have hu23 := Tryd.underlying23
 have HR0 := Aside0.mk hr0
 have HC0 := Aside0.mk hc0
 clear hr0 hc0
 have HT := Aside0.mk hT
 clear hT
 have HD_ := Aside0.mk hD
 clear hD
 have HE_ := Aside0.mk hE
 clear hE
 have HM_ := Aside0.mk hM
 clear hM
 have HB := Aside0.mk (Below.refl w.heap.size w)
 have H : ((quoinlaw16_alive.f).bind fun t462 => ((quoinref15_Great.f k l0).bind fun t463 => (if t463 = true then (quoinlaw16_ExprOnly.j0 k l0 a1 t462 true) else (quoinlaw16_ExprOnly.j0 k l0 a1 t462 (!t462))))) = some r := h
 clear h
 replace H := Option.bind_eq_some_iff.mp H
 obtain ⟨t462, A30, H⟩ := H
 replace H : ((quoinref15_Great.f k l0).bind fun t463 => (if t463 = true then (quoinlaw16_ExprOnly.j0 k l0 a1 t462 true) else (quoinlaw16_ExprOnly.j0 k l0 a1 t462 (!t462)))) = some r := H
 have A3 := Aside0.mk A30
 clear A30
 have HC4 := Aside0.mk H
 clear H
 go_enter Tryd.func8, Tryd.ntmps8
 go_upto_region 2 with (first | ((with_reducible refine gate_callee (f := 17) rfl ?_); refine goesL_ (some 17) rfl rfl Tryd.func17 (by kernel_rfl) rfl #[] rfl (by (try simp only [List.map_toArray, List.map_cons, List.map_nil]); first | done | rfl | (simp only [List.length_drop, List.length_take]; rfl)) ?_; (with_reducible refine (quoinlaw16_alive.calls  t462 _ ?side1 ?side2 ?side3 ?side4 A3.out).mono ?_); (case side1 => exact Lib.tabBelow_of_tabIs HT.out _ (by repeat (first | (with_reducible first | exact HB.out | apply below_alloc | apply pw_below_drewN | apply below_drew1) | exact HB.out))); (case side2 => exact HD_.out.below (by repeat (first | (with_reducible first | exact HB.out | apply below_alloc | apply pw_below_drewN | apply below_drew1) | exact HB.out))); (case side3 => exact HE_.out.below (by repeat (first | (with_reducible first | exact HB.out | apply below_alloc | apply pw_below_drewN | apply below_drew1) | exact HB.out))); (case side4 => exact HM_.out.below (by repeat (first | (with_reducible first | exact HB.out | apply below_alloc | apply pw_below_drewN | apply below_drew1) | exact HB.out))); rintro e w5 ⟨rfl, hb⟩; refine ⟨_, rfl, ?_⟩; have n0_ := Aside0.mk (below_step (by repeat (first | (with_reducible first | exact HB.out | apply below_alloc | apply pw_below_drewN | apply below_drew1) | exact HB.out)) hb); clear HB; have HB := n0_; clear n0_; (try clear hb); (try clear hb2); (try clear hk); (try clear hi)))
 (try simp only [Act.put, List.setIfInBounds_toArray, List.set_cons_zero, List.set_cons_succ])
 go_cut [23] (fun v23 wc => ∃ (kq : Nat) (x23_3 : Bool), v23 = .bool x23_3 ∧ Aside0 (quoinlaw16_ExprOnly.j0 kq l0 a1 t462 x23_3 = some r) ∧ Aside0 (kq ≤ k) ∧ Aside0 (Below w.heap.size w wc))
 case first =>
  have H := HC4.out
  clear HC4
  replace H := Option.bind_eq_some_iff.mp H
  obtain ⟨t463, A60, H⟩ := H
  replace H : (if t463 = true then (quoinlaw16_ExprOnly.j0 k l0 a1 t462 true) else (quoinlaw16_ExprOnly.j0 k l0 a1 t462 (!t462))) = some r := H
  have A6 := Aside0.mk A60
  clear A60
  by_cases c7 : t463 = true
  ·
   subst c7
   have H1 : (quoinlaw16_ExprOnly.j0 k l0 a1 t462 true) = some r := by rw [if_pos rfl] at H; exact H
   clear H
   have H := H1
   clear H1
   have H' := Aside0.mk H
   clear H
   go_wp2_with (first | ((with_reducible refine gate_callee (f := 14) rfl ?_); refine goesL_ (some 19) rfl rfl Tryd.func14 (by kernel_rfl) rfl #[.slice A0 l0.length c0] rfl (by (try simp only [List.map_toArray, List.map_cons, List.map_nil]); first | done | rfl | (simp only [List.length_drop, List.length_take]; rfl)) ?_; (with_reducible refine (quoinref15_Great.calls k _ _ l0 true _ ?side1 ?side2 A6.out).mono ?_); (case side1 => repeat (first | exact (Kd.C_below HR0.out HB.out) | (with_reducible refine Kd.C_alloc ?_ _) | (with_reducible refine Kd.C_drewN ?_ _) | (with_reducible refine Kd.C_drew ?_))); (case side2 => exact HC0.out); rintro e w8 ⟨rfl, hb⟩; refine ⟨_, rfl, ?_⟩; have n0_ := Aside0.mk (below_step (by repeat (first | (with_reducible first | exact HB.out | apply below_alloc | apply pw_below_drewN | apply below_drew1) | exact HB.out)) hb); clear HB; have HB := n0_; clear n0_; (try clear hb); (try clear hb2); (try clear hk); (try clear hi)))
   go_meet
   case rel => exact ⟨_, (true), (by first | rfl | (simp; done) | (simp [*]; done)), H', ⟨by first | omega | exact Nat.le_refl _⟩, ⟨by repeat (first | (with_reducible first | exact HB.out | apply below_alloc | apply pw_below_drewN | apply below_drew1) | exact HB.out)⟩⟩
  ·
   replace c7 := Bool.eq_false_iff.mpr c7
   subst c7
   have H1 : (quoinlaw16_ExprOnly.j0 k l0 a1 t462 (!t462)) = some r := by rw [if_neg (show ¬ (false = true) by decide)] at H; exact H
   clear H
   have H := H1
   clear H1
   have H' := Aside0.mk H
   clear H
   go_wp2_with (first | ((with_reducible refine gate_callee (f := 14) rfl ?_); refine goesL_ (some 19) rfl rfl Tryd.func14 (by kernel_rfl) rfl #[.slice A0 l0.length c0] rfl (by (try simp only [List.map_toArray, List.map_cons, List.map_nil]); first | done | rfl | (simp only [List.length_drop, List.length_take]; rfl)) ?_; (with_reducible refine (quoinref15_Great.calls k _ _ l0 false _ ?side1 ?side2 A6.out).mono ?_); (case side1 => repeat (first | exact (Kd.C_below HR0.out HB.out) | (with_reducible refine Kd.C_alloc ?_ _) | (with_reducible refine Kd.C_drewN ?_ _) | (with_reducible refine Kd.C_drew ?_))); (case side2 => exact HC0.out); rintro e w9 ⟨rfl, hb⟩; refine ⟨_, rfl, ?_⟩; have n0_ := Aside0.mk (below_step (by repeat (first | (with_reducible first | exact HB.out | apply below_alloc | apply pw_below_drewN | apply below_drew1) | exact HB.out)) hb); clear HB; have HB := n0_; clear n0_; (try clear hb); (try clear hb2); (try clear hk); (try clear hi)))
   go_meet
   case rel => exact ⟨_, (!t462), (by first | rfl | (simp; done) | (simp [*]; done)), H', ⟨by first | omega | exact Nat.le_refl _⟩, ⟨by repeat (first | (with_reducible first | exact HB.out | apply below_alloc | apply pw_below_drewN | apply below_drew1) | exact HB.out)⟩⟩
 case rest =>
  clear HC4
  try clear c1
  try clear p2
  try clear c7
  try clear c8
  obtain ⟨kq, x23_3, rfl, HA, HJ3, HB⟩ := hcut
  cases kq with
  | zero => exact absurd HA.out (by simp [quoinlaw16_ExprOnly.j0])
  | succ kj3 =>
   have H := HA.out
   clear HA
   simp only [quoinlaw16_ExprOnly.j0] at H
   by_cases c10 : x23_3 = true
   ·
    subst c10
    have H1 : (some t462) = some r := by rw [if_pos rfl] at H; exact H
    clear H
    have H := H1
    clear H1
    obtain rfl := Option.some.inj H
    go_wp2
    go_ret
    exact ⟨by first | rfl | (simp [errW_none, errW_some] <;> rfl) | (simp [*, errW_none, errW_some] <;> rfl), by repeat (first | (with_reducible first | exact HB.out | apply below_alloc | apply pw_below_drewN | apply below_drew1) | exact HB.out)⟩
   ·
    replace c10 := Bool.eq_false_iff.mpr c10
    subst c10
    have H1 : ((expr_Parse.f l0 a1).bind fun bt464 => (if bt464.2.2.2.2.2 = 0 then (if 0 ≤ bt464.2.2.2.2.1 then (if bt464.2.2.2.2.1 ≤ (l0.length : Int) then ((expr_Parse.f (l0.take (bt464.2.2.2.2.1 : Int).toNat) a1).bind fun bt475 => ((expr_Tokens.f bt464.1 bt464.2.1 bt464.2.2.1 bt464.2.2.2.1).bind fun bt482 => ((expr_Parse.f bt482.1 0).bind fun bt486 => (if bt464.2.2.2.2.1 > a1 then (if bt475.2.2.2.2.2 = 0 then (if (bt475.1.toList == bt464.1.toList && (bt475.2.1.toList == bt464.2.1.toList && (bt475.2.2.1 == bt464.2.2.1 && (bt475.2.2.2.1 == bt464.2.2.2.1)))) = true then (if bt475.2.2.2.2.1 = bt464.2.2.2.2.1 then (if bt482.2 = 0 then (if bt486.2.2.2.2.2 = 0 then (if (bt486.1.toList == bt464.1.toList && (bt486.2.1.toList == bt464.2.1.toList && (bt486.2.2.1 == bt464.2.2.1 && (bt486.2.2.2.1 == bt464.2.2.2.1)))) = true then (if bt486.2.2.2.2.1 = (bt482.1.length : Int) then ((expr_Check.f kj3 bt464.1 bt464.2.1 bt464.2.2.1 bt464.2.2.2.1).bind fun t493 => (some (t493 == 0))) else (none)) else (none)) else (none)) else (none)) else (none)) else (none)) else (none)) else (none))))) else (none)) else (none)) else (if bt464.2.2.2.2.1 = 0 then (some (bt464.1.toList == ([] : List UInt8) && (bt464.2.1.toList == ([] : List UInt8) && (bt464.2.2.1 == 0 && (bt464.2.2.2.1 == 0))))) else (none)))) = some r := by rw [if_neg (show ¬ (false = true) by decide)] at H; exact H
    clear H
    have H := H1
    clear H1
    replace H := Option.bind_eq_some_iff.mp H
    obtain ⟨⟨t464, t465, t466, t467, t468, t469⟩, A110, H⟩ := H
    replace H : (if t469 = 0 then (if 0 ≤ t468 then (if t468 ≤ (l0.length : Int) then ((expr_Parse.f (l0.take (t468 : Int).toNat) a1).bind fun bt475 => ((expr_Tokens.f t464 t465 t466 t467).bind fun bt482 => ((expr_Parse.f bt482.1 0).bind fun bt486 => (if t468 > a1 then (if bt475.2.2.2.2.2 = 0 then (if (bt475.1.toList == t464.toList && (bt475.2.1.toList == t465.toList && (bt475.2.2.1 == t466 && (bt475.2.2.2.1 == t467)))) = true then (if bt475.2.2.2.2.1 = t468 then (if bt482.2 = 0 then (if bt486.2.2.2.2.2 = 0 then (if (bt486.1.toList == t464.toList && (bt486.2.1.toList == t465.toList && (bt486.2.2.1 == t466 && (bt486.2.2.2.1 == t467)))) = true then (if bt486.2.2.2.2.1 = (bt482.1.length : Int) then ((expr_Check.f kj3 t464 t465 t466 t467).bind fun t493 => (some (t493 == 0))) else (none)) else (none)) else (none)) else (none)) else (none)) else (none)) else (none)) else (none))))) else (none)) else (none)) else (if t468 = 0 then (some (t464.toList == ([] : List UInt8) && (t465.toList == ([] : List UInt8) && (t466 == 0 && (t467 == 0))))) else (none))) = some r := H
    have A11 := Aside0.mk A110
    clear A110
    by_cases c12 : t469 = 0
    ·
     rw [if_pos c12] at H
     have c12b0 : (t469 == 0) = true := beq_iff_eq.mpr c12
     have c12b1 : (t469 != 0) = false := bne_eq_false_iff_eq.mpr c12
     clear c12
     by_cases c13 : 0 ≤ t468
     ·
      rw [if_pos c13] at H
      have c13b0 := eq_true c13
      have c13b1 : decide (0 ≤ t468) = true := decide_eq_true c13
      clear c13
      by_cases c14 : t468 ≤ (l0.length : Int)
      ·
       rw [if_pos c14] at H
       have c14b0 := eq_true c14
       have c14b1 : decide (t468 ≤ (l0.length : Int)) = true := decide_eq_true c14
       clear c14
       obtain ⟨y471, hy471⟩ : ∃ y_ : List (S41), y_ = (l0.take (t468 : Int).toNat) := ⟨_, rfl⟩
       replace H : ((expr_Parse.f y471 a1).bind fun bt475 => ((expr_Tokens.f t464 t465 t466 t467).bind fun bt482 => ((expr_Parse.f bt482.1 0).bind fun bt486 => (if t468 > a1 then (if bt475.2.2.2.2.2 = 0 then (if (bt475.1.toList == t464.toList && (bt475.2.1.toList == t465.toList && (bt475.2.2.1 == t466 && (bt475.2.2.2.1 == t467)))) = true then (if bt475.2.2.2.2.1 = t468 then (if bt482.2 = 0 then (if bt486.2.2.2.2.2 = 0 then (if (bt486.1.toList == t464.toList && (bt486.2.1.toList == t465.toList && (bt486.2.2.1 == t466 && (bt486.2.2.2.1 == t467)))) = true then (if bt486.2.2.2.2.1 = (bt482.1.length : Int) then ((expr_Check.f kj3 t464 t465 t466 t467).bind fun t493 => (some (t493 == 0))) else (none)) else (none)) else (none)) else (none)) else (none)) else (none)) else (none)) else (none))))) = some r := by first | (rw [hy471]; with_reducible exact H) | (have H2_ := (Option.bind_some _ _).symm.trans H; rw [hy471]; with_reducible exact H2_) | (have H2_ := (Option.bind_some _ _).symm.trans H; with_reducible exact H2_) | with_reducible exact H | (rw [hy471]; exact H) | exact H
       have Ny471 := Aside0.mk hy471
       clear hy471
       replace H := Option.bind_eq_some_iff.mp H
       obtain ⟨⟨t475, t476, t477, t478, t479, t480⟩, A150, H⟩ := H
       replace H : ((expr_Tokens.f t464 t465 t466 t467).bind fun bt482 => ((expr_Parse.f bt482.1 0).bind fun bt486 => (if t468 > a1 then (if t480 = 0 then (if (t475.toList == t464.toList && (t476.toList == t465.toList && (t477 == t466 && (t478 == t467)))) = true then (if t479 = t468 then (if bt482.2 = 0 then (if bt486.2.2.2.2.2 = 0 then (if (bt486.1.toList == t464.toList && (bt486.2.1.toList == t465.toList && (bt486.2.2.1 == t466 && (bt486.2.2.2.1 == t467)))) = true then (if bt486.2.2.2.2.1 = (bt482.1.length : Int) then ((expr_Check.f kj3 t464 t465 t466 t467).bind fun t493 => (some (t493 == 0))) else (none)) else (none)) else (none)) else (none)) else (none)) else (none)) else (none)) else (none)))) = some r := H
       have A15 := Aside0.mk A150
       clear A150
       replace H := Option.bind_eq_some_iff.mp H
       obtain ⟨⟨t482, t485⟩, A160, H⟩ := H
       replace H : ((expr_Parse.f t482 0).bind fun bt486 => (if t468 > a1 then (if t480 = 0 then (if (t475.toList == t464.toList && (t476.toList == t465.toList && (t477 == t466 && (t478 == t467)))) = true then (if t479 = t468 then (if t485 = 0 then (if bt486.2.2.2.2.2 = 0 then (if (bt486.1.toList == t464.toList && (bt486.2.1.toList == t465.toList && (bt486.2.2.1 == t466 && (bt486.2.2.2.1 == t467)))) = true then (if bt486.2.2.2.2.1 = (t482.length : Int) then ((expr_Check.f kj3 t464 t465 t466 t467).bind fun t493 => (some (t493 == 0))) else (none)) else (none)) else (none)) else (none)) else (none)) else (none)) else (none)) else (none))) = some r := H
       have A16 := Aside0.mk A160
       clear A160
       replace H := Option.bind_eq_some_iff.mp H
       obtain ⟨⟨t486, t487, t488, t489, t490, t491⟩, A170, H⟩ := H
       replace H : (if t468 > a1 then (if t480 = 0 then (if (t475.toList == t464.toList && (t476.toList == t465.toList && (t477 == t466 && (t478 == t467)))) = true then (if t479 = t468 then (if t485 = 0 then (if t491 = 0 then (if (t486.toList == t464.toList && (t487.toList == t465.toList && (t488 == t466 && (t489 == t467)))) = true then (if t490 = (t482.length : Int) then ((expr_Check.f kj3 t464 t465 t466 t467).bind fun t493 => (some (t493 == 0))) else (none)) else (none)) else (none)) else (none)) else (none)) else (none)) else (none)) else (none)) = some r := H
       have A17 := Aside0.mk A170
       clear A170
       by_cases c18 : t468 > a1
       ·
        rw [if_pos c18] at H
        have c18b0 : decide (a1 < t468) = true := decide_eq_true c18
        clear c18
        by_cases c19 : t480 = 0
        ·
         rw [if_pos c19] at H
         have c19b0 : (t480 == 0) = true := beq_iff_eq.mpr c19
         have c19b1 : (t480 != 0) = false := bne_eq_false_iff_eq.mpr c19
         clear c19
         by_cases c20 : (t475.toList == t464.toList && (t476.toList == t465.toList && (t477 == t466 && (t478 == t467)))) = true
         ·
          rw [if_pos c20] at H
          have c20b0 : (t475.toList == t464.toList && (t476.toList == t465.toList && (t477 == t466 && (t478 == t467)))) = true := c20
          (try (have c20b2 : (t475.toList == t464.toList && (t476.toList == t465.toList && (t477 == t466 && (t478 == t467)))) = true := by simpa using c20))
          clear c20
          by_cases c21 : t479 = t468
          ·
           rw [if_pos c21] at H
           have c21b0 : (t479 == t468) = true := beq_iff_eq.mpr c21
           have c21b1 : (t479 != t468) = false := bne_eq_false_iff_eq.mpr c21
           clear c21
           by_cases c22 : t485 = 0
           ·
            rw [if_pos c22] at H
            have c22b0 : (t485 == 0) = true := beq_iff_eq.mpr c22
            have c22b1 : (t485 != 0) = false := bne_eq_false_iff_eq.mpr c22
            clear c22
            by_cases c23 : t491 = 0
            ·
             rw [if_pos c23] at H
             have c23b0 : (t491 == 0) = true := beq_iff_eq.mpr c23
             have c23b1 : (t491 != 0) = false := bne_eq_false_iff_eq.mpr c23
             clear c23
             by_cases c24 : (t486.toList == t464.toList && (t487.toList == t465.toList && (t488 == t466 && (t489 == t467)))) = true
             ·
              rw [if_pos c24] at H
              have c24b0 : (t486.toList == t464.toList && (t487.toList == t465.toList && (t488 == t466 && (t489 == t467)))) = true := c24
              (try (have c24b2 : (t486.toList == t464.toList && (t487.toList == t465.toList && (t488 == t466 && (t489 == t467)))) = true := by simpa using c24))
              clear c24
              by_cases c25 : t490 = (t482.length : Int)
              ·
               rw [if_pos c25] at H
               have c25b0 : (t490 == (t482.length : Int)) = true := beq_iff_eq.mpr c25
               have c25b1 : (t490 != (t482.length : Int)) = false := bne_eq_false_iff_eq.mpr c25
               clear c25
               replace H := Option.bind_eq_some_iff.mp H
               obtain ⟨t493, A260, H⟩ := H
               replace H : (some (t493 == 0)) = some r := H
               have A26 := Aside0.mk A260
               clear A260
               obtain rfl := Option.some.inj H
               go_wp2_with (first | ((with_reducible refine gate_callee (f := 15) rfl ?_); refine goesL_ (some 28) rfl rfl Tryd.func15 (by kernel_rfl) rfl #[.slice A0 l0.length c0, .int .i64 a1] rfl (by (try simp only [List.map_toArray, List.map_cons, List.map_nil]); first | done | rfl | (simp only [List.length_drop, List.length_take]; rfl)) ?_; (with_reducible refine (expr_Parse.calls _ _ l0 a1 t464 t465 t466 t467 t468 t469 _ ?side1 ?side2 ?side3 ?side4 ?side5 A11.out).mono ?_); (case side1 => repeat (first | exact (Kd.C_below HR0.out HB.out) | (with_reducible refine Kd.C_alloc ?_ _) | (with_reducible refine Kd.C_drewN ?_ _) | (with_reducible refine Kd.C_drew ?_))); (case side2 => exact HC0.out); (case side3 => exact Lib.tabBelow_of_tabIs HT.out _ (by repeat (first | (with_reducible first | exact HB.out | apply below_alloc | apply pw_below_drewN | apply below_drew1) | exact HB.out))); (case side4 => exact HD_.out.below (by repeat (first | (with_reducible first | exact HB.out | apply below_alloc | apply pw_below_drewN | apply below_drew1) | exact HB.out))); (case side5 => exact HM_.out.below (by repeat (first | (with_reducible first | exact HB.out | apply below_alloc | apply pw_below_drewN | apply below_drew1) | exact HB.out))); rintro e w27 ⟨rfl, hb⟩; refine ⟨_, rfl, ?_⟩; have n0_ := Aside0.mk (below_step (by repeat (first | (with_reducible first | exact HB.out | apply below_alloc | apply pw_below_drewN | apply below_drew1) | exact HB.out)) hb); clear HB; have HB := n0_; clear n0_; (try clear hb); (try clear hb2); (try clear hk); (try clear hi)) | ((with_reducible refine gate_dst (N := 6) rfl ?_); (try (refine gate_guard (by rfl) ?_; dsimp only)); refine box_event ?hg (N := 6) ?hd (cs := #[.string (⟨#[]⟩ : ByteArray), .string (⟨#[]⟩ : ByteArray), .int .i64 0, .int .u8 0]) (t := 23) ?hr ?_; (case hd => rfl); (case hg => rfl); (case hr => first | (go_simp; done) | (go_simp; rfl)); intro gb470 hg w28 hbox hb; have n0_ := Aside0.mk (below_step (by repeat (first | (with_reducible first | exact HB.out | apply below_alloc | apply pw_below_drewN | apply below_drew1) | exact HB.out)) hb); have n1_ := Aside0.mk (hbox); have n2_ := Aside0.mk ((by rw [hg]; exact (below_size (by repeat (first | (with_reducible first | exact HB.out | apply below_alloc | apply pw_below_drewN | apply below_drew1) | exact HB.out))) : w.heap.size ≤ gb470)); have n3_ := Aside0.mk ((by rw [hg]; exact (below_size (by repeat (first | (with_reducible first | exact HB.out | apply below_alloc | apply pw_below_drewN | apply below_drew1) | exact HB.out))) : w.heap.size ≤ gb470)); clear HB; have HB := n0_; have BK470 := n1_; have GW470 := n2_; have GE470 := n3_; clear n0_ n1_ n2_ n3_; clear hb hbox hg; have hcz29_0 : w28.cell? ⟨gb470, 0, none⟩ = some (.string (⟨#[]⟩ : ByteArray)) := (blk_cell BK470.out 0).trans rfl; have hcz29_1 : w28.cell? ⟨gb470, 1, none⟩ = some (.string (⟨#[]⟩ : ByteArray)) := (blk_cell BK470.out 1).trans rfl; have hcz29_2 : w28.cell? ⟨gb470, 2, none⟩ = some (.int .i64 0) := (blk_cell BK470.out 2).trans rfl; have hcz29_3 : w28.cell? ⟨gb470, 3, none⟩ = some (.int .u8 0) := (blk_cell BK470.out 3).trans rfl; have hfz29_0 := blk_frozen BK470.out 0; have hfz29_1 := blk_frozen BK470.out 1; have hfz29_2 := blk_frozen BK470.out 2; have hfz29_3 := blk_frozen BK470.out 3) | ((with_reducible refine gate_store (t := 23) (p := 6) rfl ?_); refine store_event (t := 23) (p := 6) (v := ?vo_w30) (w1 := ((((w28.setCell ⟨gb470, 0, none⟩ (.string t464)).setCell ⟨gb470, 1, none⟩ (.string t465)).setCell ⟨gb470, 2, none⟩ (.int .i64 t466)).setCell ⟨gb470, 3, none⟩ (.int .u8 t467))) ?hg ?ho ?hn ?hr ?_; (case ho => rfl); (case hg => rfl); (case hn => rfl); (case hr => first | (go_simp; done) | (go_simp; rfl)); intro w30 hw; have n0_ : Aside0 (w30.heap[gb470]? = some (.cells #[.string t464, .string t465, .int .i64 t466, .int .u8 t467] 23 (0, 0))) := ⟨(by rw [hw]; exact (by (with_reducible repeat (first | refine blk_drewN ?_ _ | refine blk_drew ?_ | refine blk_alloc ?_ _)); refine blk_put (cs := #[.string t464, .string t465, .int .i64 t466, .int .u8 0]) ?_ 3 _ rfl; (with_reducible repeat (first | refine blk_drewN ?_ _ | refine blk_drew ?_ | refine blk_alloc ?_ _)); refine blk_put (cs := #[.string t464, .string t465, .int .i64 0, .int .u8 0]) ?_ 2 _ rfl; (with_reducible repeat (first | refine blk_drewN ?_ _ | refine blk_drew ?_ | refine blk_alloc ?_ _)); refine blk_put (cs := #[.string t464, .string (⟨#[]⟩ : ByteArray), .int .i64 0, .int .u8 0]) ?_ 1 _ rfl; (with_reducible repeat (first | refine blk_drewN ?_ _ | refine blk_drew ?_ | refine blk_alloc ?_ _)); refine blk_put (cs := #[.string (⟨#[]⟩ : ByteArray), .string (⟨#[]⟩ : ByteArray), .int .i64 0, .int .u8 0]) ?_ 0 _ rfl; (with_reducible repeat (first | refine blk_drewN ?_ _ | refine blk_drew ?_ | refine blk_alloc ?_ _)); exact BK470.out))⟩; have n1_ : Aside0 (Below w.heap.size w w30) := ⟨(by rw [hw]; exact (by repeat (first | (with_reducible first | exact HB.out | apply below_alloc | apply pw_below_drewN | apply below_drew1 | refine below_set ?_ GE470.out) | exact HB.out)))⟩; clear hw; clear BK470; clear HB; have BK470 := n0_; have HB := n1_; clear n0_ n1_; have q31 : (t468 : Int) ≤ ((l0.length : Int) : Int) := of_decide_eq_true (by first | (with_reducible assumption) | assumption); obtain ⟨i031, hi031, _, hsz31, _⟩ := info_parts info41; have hroom31 : l0.length ≤ c0 := HC0.out; have hC31 : Kd.C k41 _ A0 l0.length l0 := HR0.out; have hcut31 := cut_to (P := Tryd.prog) 24 41 .i64 Tryd.underlying24 hi031 A0 l0.length c0 t468 (of_decide_eq_true (by first | (with_reducible assumption) | assumption)) q31 hroom31; have hr31 := Kd.C_take (m := (t468 : Int).toNat) hC31 (by omega); have hy31 : y471.length = (t468 : Int).toNat := (by rw [Ny471.out, List.length_take]; omega); rw [← Ny471.out] at hr31; rw [← hy31] at hcut31; have HR474 := Aside0.mk hr31; have HC474 := Aside0.mk (show y471.length ≤ c0 from by omega); clear hr31 hC31 hroom31 hi031 hsz31; have KY31 := Aside0.mk hy31; clear hy31; replace q31 := eq_true q31) | ((with_reducible refine gate_callee (f := 15) rfl ?_); refine goesL_ (some 46) rfl rfl Tryd.func15 (by kernel_rfl) rfl #[.slice A0 y471.length c0, .int .i64 a1] rfl (by (try simp only [List.map_toArray, List.map_cons, List.map_nil]); first | done | rfl | (simp only [List.length_drop, List.length_take]; rfl)) ?_; (with_reducible refine (expr_Parse.calls _ _ y471 a1 t475 t476 t477 t478 t479 t480 _ ?side1 ?side2 ?side3 ?side4 ?side5 A15.out).mono ?_); (case side1 => repeat (first | exact (Kd.C_below HR474.out HB.out) | (with_reducible refine Kd.C_alloc ?_ _) | (with_reducible refine Kd.C_drewN ?_ _) | (with_reducible refine Kd.C_drew ?_))); (case side2 => exact HC474.out); (case side3 => exact Lib.tabBelow_of_tabIs HT.out _ (by repeat (first | (with_reducible first | exact HB.out | apply below_alloc | apply pw_below_drewN | apply below_drew1 | refine below_set ?_ GE470.out) | exact HB.out))); (case side4 => exact HD_.out.below (by repeat (first | (with_reducible first | exact HB.out | apply below_alloc | apply pw_below_drewN | apply below_drew1 | refine below_set ?_ GE470.out) | exact HB.out))); (case side5 => exact HM_.out.below (by repeat (first | (with_reducible first | exact HB.out | apply below_alloc | apply pw_below_drewN | apply below_drew1 | refine below_set ?_ GE470.out) | exact HB.out))); rintro e w32 ⟨rfl, hb⟩; refine ⟨_, rfl, ?_⟩; have n0_ := Aside0.mk (blk_below (g := gb470) (o := .cells #[.string t464, .string t465, .int .i64 t466, .int .u8 t467] 23 (0, 0)) (by (with_reducible repeat (first | refine blk_drewN ?_ _ | refine blk_drew ?_ | refine blk_alloc ?_ _)); exact BK470.out) hb); have n1_ := Aside0.mk (below_step (by repeat (first | (with_reducible first | exact HB.out | apply below_alloc | apply pw_below_drewN | apply below_drew1 | refine below_set ?_ GE470.out) | exact HB.out)) hb); clear BK470; clear HB; have BK470 := n0_; have HB := n1_; clear n0_ n1_; (try clear hb); (try clear hb2); (try clear hk); (try clear hi)) | ((with_reducible refine gate_dst (N := 9) rfl ?_); (try (refine gate_guard (by rfl) ?_; dsimp only)); refine box_event ?hg (N := 9) ?hd (cs := #[.string (⟨#[]⟩ : ByteArray), .string (⟨#[]⟩ : ByteArray), .int .i64 0, .int .u8 0]) (t := 23) ?hr ?_; (case hd => rfl); (case hg => rfl); (case hr => first | (go_simp; done) | (go_simp; rfl)); intro gb481 hg w33 hbox hb; have n0_ := Aside0.mk (blk_below (g := gb470) (o := .cells #[.string t464, .string t465, .int .i64 t466, .int .u8 t467] 23 (0, 0)) (by (with_reducible repeat (first | refine blk_drewN ?_ _ | refine blk_drew ?_ | refine blk_alloc ?_ _)); exact BK470.out) hb); have n1_ := Aside0.mk (below_step (by repeat (first | (with_reducible first | exact HB.out | apply below_alloc | apply pw_below_drewN | apply below_drew1 | refine below_set ?_ GE470.out) | exact HB.out)) hb); have n2_ := Aside0.mk (hbox); have n3_ := Aside0.mk ((by rw [hg]; exact (below_size (by repeat (first | (with_reducible first | exact HB.out | apply below_alloc | apply pw_below_drewN | apply below_drew1 | refine below_set ?_ GE470.out) | exact HB.out))) : w.heap.size ≤ gb481)); have n4_ := Aside0.mk ((by rw [hg]; exact (below_size (by repeat (first | (with_reducible first | exact HB.out | apply below_alloc | apply pw_below_drewN | apply below_drew1 | refine below_set ?_ GE470.out) | exact HB.out))) : w.heap.size ≤ gb481)); have n5_ := Aside0.mk ((by rw [hg]; exact Nat.ne_of_lt (blk_lt (g := gb470) (o := .cells #[.string t464, .string t465, .int .i64 t466, .int .u8 t467] 23 (0, 0)) (by (with_reducible repeat (first | refine blk_drewN ?_ _ | refine blk_drew ?_ | refine blk_alloc ?_ _)); exact BK470.out)) : gb470 ≠ gb481)); have n6_ := Aside0.mk ((by rw [hg]; exact Nat.ne_of_gt (blk_lt (g := gb470) (o := .cells #[.string t464, .string t465, .int .i64 t466, .int .u8 t467] 23 (0, 0)) (by (with_reducible repeat (first | refine blk_drewN ?_ _ | refine blk_drew ?_ | refine blk_alloc ?_ _)); exact BK470.out)) : gb481 ≠ gb470)); clear BK470; clear HB; have BK470 := n0_; have HB := n1_; have BK481 := n2_; have GW481 := n3_; have GE481 := n4_; have NB470_481 := n5_; have NB481_470 := n6_; clear n0_ n1_ n2_ n3_ n4_ n5_ n6_; clear hb hbox hg; have hnb34 := NB481_470.out; have hnc34 := NB470_481.out; have hcz35_0 : w33.cell? ⟨gb481, 0, none⟩ = some (.string (⟨#[]⟩ : ByteArray)) := (blk_cell BK481.out 0).trans rfl; have hcz35_1 : w33.cell? ⟨gb481, 1, none⟩ = some (.string (⟨#[]⟩ : ByteArray)) := (blk_cell BK481.out 1).trans rfl; have hcz35_2 : w33.cell? ⟨gb481, 2, none⟩ = some (.int .i64 0) := (blk_cell BK481.out 2).trans rfl; have hcz35_3 : w33.cell? ⟨gb481, 3, none⟩ = some (.int .u8 0) := (blk_cell BK481.out 3).trans rfl; have hfz35_0 := blk_frozen BK481.out 0; have hfz35_1 := blk_frozen BK481.out 1; have hfz35_2 := blk_frozen BK481.out 2; have hfz35_3 := blk_frozen BK481.out 3; have hcz36_0 : w33.cell? ⟨gb470, 0, none⟩ = some (.string t464) := (blk_cell BK470.out 0).trans rfl; have hcz36_1 : w33.cell? ⟨gb470, 1, none⟩ = some (.string t465) := (blk_cell BK470.out 1).trans rfl; have hcz36_2 : w33.cell? ⟨gb470, 2, none⟩ = some (.int .i64 t466) := (blk_cell BK470.out 2).trans rfl; have hcz36_3 : w33.cell? ⟨gb470, 3, none⟩ = some (.int .u8 t467) := (blk_cell BK470.out 3).trans rfl; have hfz36_0 := blk_frozen BK470.out 0; have hfz36_1 := blk_frozen BK470.out 1; have hfz36_2 := blk_frozen BK470.out 2; have hfz36_3 := blk_frozen BK470.out 3) | ((with_reducible refine gate_callee (f := 9) rfl ?_); refine goesL_ (some 52) rfl rfl Tryd.func9 (by kernel_rfl) rfl #[.agg #[.string t464, .string t465, .int .i64 t466, .int .u8 t467]] rfl (by (try simp only [List.map_toArray, List.map_cons, List.map_nil]); first | done | rfl | (simp only [List.length_drop, List.length_take]; rfl)) ?_; (with_reducible refine (expr_Tokens.calls t464 t465 t466 t467 t482 t485 _ ?side1 ?side2 ?side3 A16.out).mono ?_); (case side1 => exact Lib.tabBelow_of_tabIs HT.out _ (by repeat (first | (with_reducible first | exact HB.out | apply below_alloc | apply pw_below_drewN | apply below_drew1 | refine below_set ?_ GE470.out | refine below_set ?_ GE481.out) | exact HB.out))); (case side2 => exact HD_.out.below (by repeat (first | (with_reducible first | exact HB.out | apply below_alloc | apply pw_below_drewN | apply below_drew1 | refine below_set ?_ GE470.out | refine below_set ?_ GE481.out) | exact HB.out))); (case side3 => exact HM_.out.below (by repeat (first | (with_reducible first | exact HB.out | apply below_alloc | apply pw_below_drewN | apply below_drew1 | refine below_set ?_ GE470.out | refine below_set ?_ GE481.out) | exact HB.out))); rintro e w37 ⟨v483, rfl, ho0, hb⟩; refine ⟨_, rfl, ?_⟩; have n0_ := Aside0.mk (Kd.R_lower ho0 (below_size (by repeat (first | (with_reducible first | exact HB.out | apply below_alloc | apply pw_below_drewN | apply below_drew1 | refine below_set ?_ GE470.out | refine below_set ?_ GE481.out) | exact HB.out)))); have n1_ := Aside0.mk (blk_below (g := gb470) (o := .cells #[.string t464, .string t465, .int .i64 t466, .int .u8 t467] 23 (0, 0)) (by (with_reducible repeat (first | refine blk_drewN ?_ _ | refine blk_drew ?_ | refine blk_alloc ?_ _)); refine blk_far ?_ NB470_481.out _; (with_reducible repeat (first | refine blk_drewN ?_ _ | refine blk_drew ?_ | refine blk_alloc ?_ _)); refine blk_far ?_ NB470_481.out _; (with_reducible repeat (first | refine blk_drewN ?_ _ | refine blk_drew ?_ | refine blk_alloc ?_ _)); refine blk_far ?_ NB470_481.out _; (with_reducible repeat (first | refine blk_drewN ?_ _ | refine blk_drew ?_ | refine blk_alloc ?_ _)); refine blk_far ?_ NB470_481.out _; (with_reducible repeat (first | refine blk_drewN ?_ _ | refine blk_drew ?_ | refine blk_alloc ?_ _)); exact BK470.out) hb); have n2_ := Aside0.mk (blk_below (g := gb481) (o := .cells #[.string t475, .string t476, .int .i64 t477, .int .u8 t478] 23 (0, 0)) (by (with_reducible repeat (first | refine blk_drewN ?_ _ | refine blk_drew ?_ | refine blk_alloc ?_ _)); refine blk_put (cs := #[.string t475, .string t476, .int .i64 t477, .int .u8 0]) ?_ 3 _ rfl; (with_reducible repeat (first | refine blk_drewN ?_ _ | refine blk_drew ?_ | refine blk_alloc ?_ _)); refine blk_put (cs := #[.string t475, .string t476, .int .i64 0, .int .u8 0]) ?_ 2 _ rfl; (with_reducible repeat (first | refine blk_drewN ?_ _ | refine blk_drew ?_ | refine blk_alloc ?_ _)); refine blk_put (cs := #[.string t475, .string (⟨#[]⟩ : ByteArray), .int .i64 0, .int .u8 0]) ?_ 1 _ rfl; (with_reducible repeat (first | refine blk_drewN ?_ _ | refine blk_drew ?_ | refine blk_alloc ?_ _)); refine blk_put (cs := #[.string (⟨#[]⟩ : ByteArray), .string (⟨#[]⟩ : ByteArray), .int .i64 0, .int .u8 0]) ?_ 0 _ rfl; (with_reducible repeat (first | refine blk_drewN ?_ _ | refine blk_drew ?_ | refine blk_alloc ?_ _)); exact BK481.out) hb); have n3_ := Aside0.mk (below_step (by repeat (first | (with_reducible first | exact HB.out | apply below_alloc | apply pw_below_drewN | apply below_drew1 | refine below_set ?_ GE470.out | refine below_set ?_ GE481.out) | exact HB.out)) hb); clear BK470; clear BK481; clear HB; have HO484 := n0_; have BK470 := n1_; have BK481 := n2_; have HB := n3_; clear n0_ n1_ n2_ n3_; (try clear hb); (try clear hb2); (try clear hk); (try clear hi); (try clear ho0); obtain ⟨Ao38, co38, eo38⟩ := Kd.R_slice HO484.out; subst eo38) | ((with_reducible refine gate_callee (f := 15) rfl ?_); refine goesL_ (some 57) rfl rfl Tryd.func15 (by kernel_rfl) rfl #[.slice Ao38 t482.length co38, .int .i64 0] rfl (by (try simp only [List.map_toArray, List.map_cons, List.map_nil]); first | done | rfl | (simp only [List.length_drop, List.length_take]; rfl)) ?_; (with_reducible refine (expr_Parse.calls _ _ t482 0 t486 t487 t488 t489 t490 t491 _ ?side1 ?side2 ?side3 ?side4 ?side5 A17.out).mono ?_); (case side1 => repeat (first | exact (Kd.R_reads' HO484.out).2.2 | (with_reducible refine Kd.C_alloc ?_ _) | (with_reducible refine Kd.C_drewN ?_ _) | (with_reducible refine Kd.C_drew ?_))); (case side2 => exact (Kd.R_reads' HO484.out).2.1); (case side3 => exact Lib.tabBelow_of_tabIs HT.out _ (by repeat (first | (with_reducible first | exact HB.out | apply below_alloc | apply pw_below_drewN | apply below_drew1 | refine below_set ?_ GE470.out | refine below_set ?_ GE481.out) | exact HB.out))); (case side4 => exact HD_.out.below (by repeat (first | (with_reducible first | exact HB.out | apply below_alloc | apply pw_below_drewN | apply below_drew1 | refine below_set ?_ GE470.out | refine below_set ?_ GE481.out) | exact HB.out))); (case side5 => exact HM_.out.below (by repeat (first | (with_reducible first | exact HB.out | apply below_alloc | apply pw_below_drewN | apply below_drew1 | refine below_set ?_ GE470.out | refine below_set ?_ GE481.out) | exact HB.out))); rintro e w39 ⟨rfl, hb⟩; refine ⟨_, rfl, ?_⟩; have n0_ := Aside0.mk (Kd.R_below (by (with_reducible repeat (first | apply Kd.R_alloc | apply Kd.R_drewN | apply Kd.R_drew)); exact HO484.out) hb); have n1_ := Aside0.mk (blk_below (g := gb470) (o := .cells #[.string t464, .string t465, .int .i64 t466, .int .u8 t467] 23 (0, 0)) (by (with_reducible repeat (first | refine blk_drewN ?_ _ | refine blk_drew ?_ | refine blk_alloc ?_ _)); exact BK470.out) hb); have n2_ := Aside0.mk (blk_below (g := gb481) (o := .cells #[.string t475, .string t476, .int .i64 t477, .int .u8 t478] 23 (0, 0)) (by (with_reducible repeat (first | refine blk_drewN ?_ _ | refine blk_drew ?_ | refine blk_alloc ?_ _)); exact BK481.out) hb); have n3_ := Aside0.mk (below_step (by repeat (first | (with_reducible first | exact HB.out | apply below_alloc | apply pw_below_drewN | apply below_drew1 | refine below_set ?_ GE470.out | refine below_set ?_ GE481.out) | exact HB.out)) hb); clear HO484; clear BK470; clear BK481; clear HB; have HO484 := n0_; have BK470 := n1_; have BK481 := n2_; have HB := n3_; clear n0_ n1_ n2_ n3_; (try clear hb); (try clear hb2); (try clear hk); (try clear hi)) | ((with_reducible refine gate_dst (N := 14) rfl ?_); (try (refine gate_guard (by rfl) ?_; dsimp only)); refine box_event ?hg (N := 14) ?hd (cs := #[.string (⟨#[]⟩ : ByteArray), .string (⟨#[]⟩ : ByteArray), .int .i64 0, .int .u8 0]) (t := 23) ?hr ?_; (case hd => rfl); (case hg => rfl); (case hr => first | (go_simp; done) | (go_simp; rfl)); intro gb492 hg w40 hbox hb; have n0_ := Aside0.mk (Kd.R_below (by (with_reducible repeat (first | apply Kd.R_alloc | apply Kd.R_drewN | apply Kd.R_drew)); exact HO484.out) hb); have n1_ := Aside0.mk (blk_below (g := gb470) (o := .cells #[.string t464, .string t465, .int .i64 t466, .int .u8 t467] 23 (0, 0)) (by (with_reducible repeat (first | refine blk_drewN ?_ _ | refine blk_drew ?_ | refine blk_alloc ?_ _)); exact BK470.out) hb); have n2_ := Aside0.mk (blk_below (g := gb481) (o := .cells #[.string t475, .string t476, .int .i64 t477, .int .u8 t478] 23 (0, 0)) (by (with_reducible repeat (first | refine blk_drewN ?_ _ | refine blk_drew ?_ | refine blk_alloc ?_ _)); exact BK481.out) hb); have n3_ := Aside0.mk (below_step (by repeat (first | (with_reducible first | exact HB.out | apply below_alloc | apply pw_below_drewN | apply below_drew1 | refine below_set ?_ GE470.out | refine below_set ?_ GE481.out) | exact HB.out)) hb); have n4_ := Aside0.mk (hbox); have n5_ := Aside0.mk ((by rw [hg]; exact (below_size (by repeat (first | (with_reducible first | exact HB.out | apply below_alloc | apply pw_below_drewN | apply below_drew1 | refine below_set ?_ GE470.out | refine below_set ?_ GE481.out) | exact HB.out))) : w.heap.size ≤ gb492)); have n6_ := Aside0.mk ((by rw [hg]; exact (below_size (by repeat (first | (with_reducible first | exact HB.out | apply below_alloc | apply pw_below_drewN | apply below_drew1 | refine below_set ?_ GE470.out | refine below_set ?_ GE481.out) | exact HB.out))) : w.heap.size ≤ gb492)); have n7_ := Aside0.mk ((by rw [hg]; exact Nat.ne_of_lt (blk_lt (g := gb470) (o := .cells #[.string t464, .string t465, .int .i64 t466, .int .u8 t467] 23 (0, 0)) (by (with_reducible repeat (first | refine blk_drewN ?_ _ | refine blk_drew ?_ | refine blk_alloc ?_ _)); exact BK470.out)) : gb470 ≠ gb492)); have n8_ := Aside0.mk ((by rw [hg]; exact Nat.ne_of_gt (blk_lt (g := gb470) (o := .cells #[.string t464, .string t465, .int .i64 t466, .int .u8 t467] 23 (0, 0)) (by (with_reducible repeat (first | refine blk_drewN ?_ _ | refine blk_drew ?_ | refine blk_alloc ?_ _)); exact BK470.out)) : gb492 ≠ gb470)); have n9_ := Aside0.mk ((by rw [hg]; exact Nat.ne_of_lt (blk_lt (g := gb481) (o := .cells #[.string t475, .string t476, .int .i64 t477, .int .u8 t478] 23 (0, 0)) (by (with_reducible repeat (first | refine blk_drewN ?_ _ | refine blk_drew ?_ | refine blk_alloc ?_ _)); exact BK481.out)) : gb481 ≠ gb492)); have n10_ := Aside0.mk ((by rw [hg]; exact Nat.ne_of_gt (blk_lt (g := gb481) (o := .cells #[.string t475, .string t476, .int .i64 t477, .int .u8 t478] 23 (0, 0)) (by (with_reducible repeat (first | refine blk_drewN ?_ _ | refine blk_drew ?_ | refine blk_alloc ?_ _)); exact BK481.out)) : gb492 ≠ gb481)); clear HO484; clear BK470; clear BK481; clear HB; have HO484 := n0_; have BK470 := n1_; have BK481 := n2_; have HB := n3_; have BK492 := n4_; have GW492 := n5_; have GE492 := n6_; have NB470_492 := n7_; have NB492_470 := n8_; have NB481_492 := n9_; have NB492_481 := n10_; clear n0_ n1_ n2_ n3_ n4_ n5_ n6_ n7_ n8_ n9_ n10_; clear hb hbox hg; have hnb41 := NB492_470.out; have hnc41 := NB470_492.out; have hnb42 := NB492_481.out; have hnc42 := NB481_492.out; have hcz43_0 : w40.cell? ⟨gb492, 0, none⟩ = some (.string (⟨#[]⟩ : ByteArray)) := (blk_cell BK492.out 0).trans rfl; have hcz43_1 : w40.cell? ⟨gb492, 1, none⟩ = some (.string (⟨#[]⟩ : ByteArray)) := (blk_cell BK492.out 1).trans rfl; have hcz43_2 : w40.cell? ⟨gb492, 2, none⟩ = some (.int .i64 0) := (blk_cell BK492.out 2).trans rfl; have hcz43_3 : w40.cell? ⟨gb492, 3, none⟩ = some (.int .u8 0) := (blk_cell BK492.out 3).trans rfl; have hfz43_0 := blk_frozen BK492.out 0; have hfz43_1 := blk_frozen BK492.out 1; have hfz43_2 := blk_frozen BK492.out 2; have hfz43_3 := blk_frozen BK492.out 3; have hcz44_0 : w40.cell? ⟨gb481, 0, none⟩ = some (.string t475) := (blk_cell BK481.out 0).trans rfl; have hcz44_1 : w40.cell? ⟨gb481, 1, none⟩ = some (.string t476) := (blk_cell BK481.out 1).trans rfl; have hcz44_2 : w40.cell? ⟨gb481, 2, none⟩ = some (.int .i64 t477) := (blk_cell BK481.out 2).trans rfl; have hcz44_3 : w40.cell? ⟨gb481, 3, none⟩ = some (.int .u8 t478) := (blk_cell BK481.out 3).trans rfl; have hfz44_0 := blk_frozen BK481.out 0; have hfz44_1 := blk_frozen BK481.out 1; have hfz44_2 := blk_frozen BK481.out 2; have hfz44_3 := blk_frozen BK481.out 3; have hcz45_0 : w40.cell? ⟨gb470, 0, none⟩ = some (.string t464) := (blk_cell BK470.out 0).trans rfl; have hcz45_1 : w40.cell? ⟨gb470, 1, none⟩ = some (.string t465) := (blk_cell BK470.out 1).trans rfl; have hcz45_2 : w40.cell? ⟨gb470, 2, none⟩ = some (.int .i64 t466) := (blk_cell BK470.out 2).trans rfl; have hcz45_3 : w40.cell? ⟨gb470, 3, none⟩ = some (.int .u8 t467) := (blk_cell BK470.out 3).trans rfl; have hfz45_0 := blk_frozen BK470.out 0; have hfz45_1 := blk_frozen BK470.out 1; have hfz45_2 := blk_frozen BK470.out 2; have hfz45_3 := blk_frozen BK470.out 3) | (go_at_call 12; (with_reducible refine (expr_Check.calls kj3 t464 t465 t466 t467 t493 _ ?side1 ?side2 A26.out).mono ?_); (case side1 => exact Lib.tabBelow_of_tabIs HT.out _ (by repeat (first | (with_reducible first | exact HB.out | apply below_alloc | apply pw_below_drewN | apply below_drew1 | refine below_set ?_ GE470.out | refine below_set ?_ GE481.out | refine below_set ?_ GE492.out) | exact HB.out))); (case side2 => exact HD_.out.below (by repeat (first | (with_reducible first | exact HB.out | apply below_alloc | apply pw_below_drewN | apply below_drew1 | refine below_set ?_ GE470.out | refine below_set ?_ GE481.out | refine below_set ?_ GE492.out) | exact HB.out))); rintro e w46 ⟨rfl, hb⟩; have n0_ := Aside0.mk (Kd.R_below (by (with_reducible repeat (first | apply Kd.R_alloc | apply Kd.R_drewN | apply Kd.R_drew)); exact (Kd.R_mono (Kd.R_far (p := ⟨gb492, 3, none⟩) (Kd.R_far (p := ⟨gb492, 2, none⟩) (Kd.R_far (p := ⟨gb492, 1, none⟩) (Kd.R_far (p := ⟨gb492, 0, none⟩) (Kd.R_types HO484.out BK492.out (by decide)) (fun _ hk => hk.2) (.string t486)) (fun _ hk => hk.2) (.string t487)) (fun _ hk => hk.2) (.int .i64 t488)) (fun _ hk => hk.2) (.int .u8 t489)) (fun _ h_ => h_.1))) hb); have n1_ := Aside0.mk (blk_below (g := gb470) (o := .cells #[.string t464, .string t465, .int .i64 t466, .int .u8 t467] 23 (0, 0)) (by (with_reducible repeat (first | refine blk_drewN ?_ _ | refine blk_drew ?_ | refine blk_alloc ?_ _)); refine blk_far ?_ NB470_492.out _; (with_reducible repeat (first | refine blk_drewN ?_ _ | refine blk_drew ?_ | refine blk_alloc ?_ _)); refine blk_far ?_ NB470_492.out _; (with_reducible repeat (first | refine blk_drewN ?_ _ | refine blk_drew ?_ | refine blk_alloc ?_ _)); refine blk_far ?_ NB470_492.out _; (with_reducible repeat (first | refine blk_drewN ?_ _ | refine blk_drew ?_ | refine blk_alloc ?_ _)); refine blk_far ?_ NB470_492.out _; (with_reducible repeat (first | refine blk_drewN ?_ _ | refine blk_drew ?_ | refine blk_alloc ?_ _)); exact BK470.out) hb); have n2_ := Aside0.mk (blk_below (g := gb481) (o := .cells #[.string t475, .string t476, .int .i64 t477, .int .u8 t478] 23 (0, 0)) (by (with_reducible repeat (first | refine blk_drewN ?_ _ | refine blk_drew ?_ | refine blk_alloc ?_ _)); refine blk_far ?_ NB481_492.out _; (with_reducible repeat (first | refine blk_drewN ?_ _ | refine blk_drew ?_ | refine blk_alloc ?_ _)); refine blk_far ?_ NB481_492.out _; (with_reducible repeat (first | refine blk_drewN ?_ _ | refine blk_drew ?_ | refine blk_alloc ?_ _)); refine blk_far ?_ NB481_492.out _; (with_reducible repeat (first | refine blk_drewN ?_ _ | refine blk_drew ?_ | refine blk_alloc ?_ _)); refine blk_far ?_ NB481_492.out _; (with_reducible repeat (first | refine blk_drewN ?_ _ | refine blk_drew ?_ | refine blk_alloc ?_ _)); exact BK481.out) hb); have n3_ := Aside0.mk (blk_below (g := gb492) (o := .cells #[.string t486, .string t487, .int .i64 t488, .int .u8 t489] 23 (0, 0)) (by (with_reducible repeat (first | refine blk_drewN ?_ _ | refine blk_drew ?_ | refine blk_alloc ?_ _)); refine blk_put (cs := #[.string t486, .string t487, .int .i64 t488, .int .u8 0]) ?_ 3 _ rfl; (with_reducible repeat (first | refine blk_drewN ?_ _ | refine blk_drew ?_ | refine blk_alloc ?_ _)); refine blk_put (cs := #[.string t486, .string t487, .int .i64 0, .int .u8 0]) ?_ 2 _ rfl; (with_reducible repeat (first | refine blk_drewN ?_ _ | refine blk_drew ?_ | refine blk_alloc ?_ _)); refine blk_put (cs := #[.string t486, .string (⟨#[]⟩ : ByteArray), .int .i64 0, .int .u8 0]) ?_ 1 _ rfl; (with_reducible repeat (first | refine blk_drewN ?_ _ | refine blk_drew ?_ | refine blk_alloc ?_ _)); refine blk_put (cs := #[.string (⟨#[]⟩ : ByteArray), .string (⟨#[]⟩ : ByteArray), .int .i64 0, .int .u8 0]) ?_ 0 _ rfl; (with_reducible repeat (first | refine blk_drewN ?_ _ | refine blk_drew ?_ | refine blk_alloc ?_ _)); exact BK492.out) hb); have n4_ := Aside0.mk (below_step (by repeat (first | (with_reducible first | exact HB.out | apply below_alloc | apply pw_below_drewN | apply below_drew1 | refine below_set ?_ GE470.out | refine below_set ?_ GE481.out | refine below_set ?_ GE492.out) | exact HB.out)) hb); clear HO484; clear BK470; clear BK481; clear BK492; clear HB; have HO484 := n0_; have BK470 := n1_; have BK481 := n2_; have BK492 := n3_; have HB := n4_; clear n0_ n1_ n2_ n3_ n4_; (try clear hb); (try clear hb2); (try clear hk); (try clear hi)))
               go_ret
               exact ⟨by first | rfl | (simp [errW_none, errW_some] <;> rfl) | (simp [*, errW_none, errW_some] <;> rfl), by repeat (first | (with_reducible first | exact HB.out | apply below_alloc | apply pw_below_drewN | apply below_drew1 | refine below_set ?_ GE470.out | refine below_set ?_ GE481.out | refine below_set ?_ GE492.out) | exact HB.out)⟩
              ·
               rw [if_neg c25] at H
               exact absurd H (by simp)
             ·
              rw [if_neg c24] at H
              exact absurd H (by simp)
            ·
             rw [if_neg c23] at H
             exact absurd H (by simp)
           ·
            rw [if_neg c22] at H
            exact absurd H (by simp)
          ·
           rw [if_neg c21] at H
           exact absurd H (by simp)
         ·
          rw [if_neg c20] at H
          exact absurd H (by simp)
        ·
         rw [if_neg c19] at H
         exact absurd H (by simp)
       ·
        rw [if_neg c18] at H
        exact absurd H (by simp)
      ·
       rw [if_neg c14] at H
       exact absurd H (by simp)
     ·
      rw [if_neg c13] at H
      exact absurd H (by simp)
    ·
     rw [if_neg c12] at H
     have c12b0 : (t469 == 0) = false := beq_eq_false_iff_ne.mpr c12
     have c12b1 : (t469 != 0) = true := bne_iff_ne.mpr c12
     by_cases c47 : t468 = 0
     ·
      rw [if_pos c47] at H
      have c47b0 : (t468 == 0) = true := beq_iff_eq.mpr c47
      have c47b1 : (t468 != 0) = false := bne_eq_false_iff_eq.mpr c47
      clear c47
      obtain rfl := Option.some.inj H
      go_wp2_with (first | ((with_reducible refine gate_callee (f := 15) rfl ?_); refine goesL_ (some 28) rfl rfl Tryd.func15 (by kernel_rfl) rfl #[.slice A0 l0.length c0, .int .i64 a1] rfl (by (try simp only [List.map_toArray, List.map_cons, List.map_nil]); first | done | rfl | (simp only [List.length_drop, List.length_take]; rfl)) ?_; (with_reducible refine (expr_Parse.calls _ _ l0 a1 t464 t465 t466 t467 t468 t469 _ ?side1 ?side2 ?side3 ?side4 ?side5 A11.out).mono ?_); (case side1 => repeat (first | exact (Kd.C_below HR0.out HB.out) | (with_reducible refine Kd.C_alloc ?_ _) | (with_reducible refine Kd.C_drewN ?_ _) | (with_reducible refine Kd.C_drew ?_))); (case side2 => exact HC0.out); (case side3 => exact Lib.tabBelow_of_tabIs HT.out _ (by repeat (first | (with_reducible first | exact HB.out | apply below_alloc | apply pw_below_drewN | apply below_drew1) | exact HB.out))); (case side4 => exact HD_.out.below (by repeat (first | (with_reducible first | exact HB.out | apply below_alloc | apply pw_below_drewN | apply below_drew1) | exact HB.out))); (case side5 => exact HM_.out.below (by repeat (first | (with_reducible first | exact HB.out | apply below_alloc | apply pw_below_drewN | apply below_drew1) | exact HB.out))); rintro e w48 ⟨rfl, hb⟩; refine ⟨_, rfl, ?_⟩; have n0_ := Aside0.mk (below_step (by repeat (first | (with_reducible first | exact HB.out | apply below_alloc | apply pw_below_drewN | apply below_drew1) | exact HB.out)) hb); clear HB; have HB := n0_; clear n0_; (try clear hb); (try clear hb2); (try clear hk); (try clear hi)) | ((with_reducible refine gate_dst (N := 6) rfl ?_); (try (refine gate_guard (by rfl) ?_; dsimp only)); refine box_event ?hg (N := 6) ?hd (cs := #[.string (⟨#[]⟩ : ByteArray), .string (⟨#[]⟩ : ByteArray), .int .i64 0, .int .u8 0]) (t := 23) ?hr ?_; (case hd => rfl); (case hg => rfl); (case hr => first | (go_simp; done) | (go_simp; rfl)); intro gb470 hg w49 hbox hb; have n0_ := Aside0.mk (below_step (by repeat (first | (with_reducible first | exact HB.out | apply below_alloc | apply pw_below_drewN | apply below_drew1) | exact HB.out)) hb); have n1_ := Aside0.mk (hbox); have n2_ := Aside0.mk ((by rw [hg]; exact (below_size (by repeat (first | (with_reducible first | exact HB.out | apply below_alloc | apply pw_below_drewN | apply below_drew1) | exact HB.out))) : w.heap.size ≤ gb470)); have n3_ := Aside0.mk ((by rw [hg]; exact (below_size (by repeat (first | (with_reducible first | exact HB.out | apply below_alloc | apply pw_below_drewN | apply below_drew1) | exact HB.out))) : w.heap.size ≤ gb470)); clear HB; have HB := n0_; have BK470 := n1_; have GW470 := n2_; have GE470 := n3_; clear n0_ n1_ n2_ n3_; clear hb hbox hg; have hcz50_0 : w49.cell? ⟨gb470, 0, none⟩ = some (.string (⟨#[]⟩ : ByteArray)) := (blk_cell BK470.out 0).trans rfl; have hcz50_1 : w49.cell? ⟨gb470, 1, none⟩ = some (.string (⟨#[]⟩ : ByteArray)) := (blk_cell BK470.out 1).trans rfl; have hcz50_2 : w49.cell? ⟨gb470, 2, none⟩ = some (.int .i64 0) := (blk_cell BK470.out 2).trans rfl; have hcz50_3 : w49.cell? ⟨gb470, 3, none⟩ = some (.int .u8 0) := (blk_cell BK470.out 3).trans rfl; have hfz50_0 := blk_frozen BK470.out 0; have hfz50_1 := blk_frozen BK470.out 1; have hfz50_2 := blk_frozen BK470.out 2; have hfz50_3 := blk_frozen BK470.out 3))
      go_ret
      exact ⟨by first | rfl | (simp [errW_none, errW_some] <;> rfl) | (simp [*, errW_none, errW_some] <;> rfl), by repeat (first | (with_reducible first | exact HB.out | apply below_alloc | apply pw_below_drewN | apply below_drew1 | refine below_set ?_ GE470.out) | exact HB.out)⟩
     ·
      rw [if_neg c47] at H
      exact absurd H (by simp)

/-- THE ONE PURE STATEMENT of quoinlaw16_ExprOnly: yours. -/
def quoinlaw16_ExprOnly.Pure : Prop := ∀ (l0 : List (S41)) (a1 : Int), (l0.length ≤ maxLen ∧ ∀ x0_ ∈ l0, wfS41 x0_) → (Lit.int .i64 a1).wf = true → ∃ k, quoinlaw16_ExprOnly.f k l0 a1 = some true
theorem quoinlaw16_ExprOnly.walk (P : quoinlaw16_ExprOnly.Pure) (A0 : Option Addr) (c0 : Nat) (l0 : List (S41)) (a1 : Int) (w : World) (hr0 : Kd.C k41 w A0 l0.length l0) (hc0 : l0.length ≤ c0) (hT : Lib.TabIs Tryd.prog w "internal/strconv.uint64pow10" .u64 Lib.pow10Tab) (hD : LexW.LexD w) (hE : LexW.LexE w) (hM : ExW.ModsAt w) (w0_0 : (l0.length ≤ maxLen ∧ ∀ x0_ ∈ l0, wfS41 x0_)) (w1_0 : (Lit.int .i64 a1).wf = true) :
  Calls Tryd.prog 8 #[.slice A0 l0.length c0, .int .i64 a1] w fun e w' => e = .returned (.bool true) ∧ Below w.heap.size w w' := by
 obtain ⟨k, h⟩ := P l0 a1 w0_0 w1_0
 refine (quoinlaw16_ExprOnly.calls k A0 c0 l0 a1 true w hr0 hc0 hT hD hE hM h).mono ?_
 rintro e w' ⟨rfl, hd⟩
 exact ⟨rfl, hd⟩

end Go.Proofs.YtgihgmniijhfoaaDoor.P
