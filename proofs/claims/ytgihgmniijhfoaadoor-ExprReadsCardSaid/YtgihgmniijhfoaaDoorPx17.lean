-- Written by pext.py, a program of this session, over the kit's print: a function's contract
import Derived.Test.YtgihgmniijhfoaaDoorPx0
import Derived.Test.YtgihgmniijhfoaaDoorPx12
import Derived.Test.YtgihgmniijhfoaaDoorPx16
namespace Go.Proofs.YtgihgmniijhfoaaDoor.P
open Go.RowKit Go.Proofs.YtgihgmniijhfoaaDoorW.PrintWords Go.Proofs.YtgihgmniijhfoaaDoorW.PrintLast Go.Proofs.YtgihgmniijhfoaaDoorW.PrintMore
attribute [local go_sem] max2_int min2_int max_two min_two max_three min_three max_four min_four   -- for this text's walks alone
set_option linter.unusedVariables false
set_option linter.unusedSimpArgs false

/-! ### quoinref16_term: function 44 -/
def quoinref16_term.f (k : Nat) (l0 : List (S41)) (a1 : Int) : Option (Bool) := if a1 < (l0.length : Int) then (if 0 ≤ a1 then (if ((rd_T41 l0 a1).f0) = 2 then (some true) else (if ((rd_T41 l0 a1).f0) = 1 then ((quoinref16_Word.f k ((rd_T41 l0 a1).f1)).bind fun t301 => (some t301)) else (some false))) else (none)) else (some false)
theorem quoinref16_term.mono : ∀ a0 a1 k, LeO (quoinref16_term.f k a0 a1) (quoinref16_term.f (k + 1) a0 a1) := by
 intro a0 a1 k
 unfold quoinref16_term.f
 repeat' first
   | (with_reducible exact quoinref16_Word.mono _ _)
   | (with_reducible exact LeO.refl _)
   | (with_reducible exact LeO.none _)
   | (with_reducible refine LeO.ite ?_ ?_)
   | (with_reducible refine LeO.bind ?_ (fun _ => ?_))
   | exact quoinref16_Word.mono _ _
   | exact LeO.none _
   | refine LeO.ite ?_ ?_
   | refine LeO.bind ?_ (fun _ => ?_)
set_option maxHeartbeats 8000000 in
set_option maxRecDepth 100000 in
theorem quoinref16_term.calls (k : Nat) (A0 : Option Addr) (c0 : Nat) (l0 : List (S41)) (a1 : Int) (r : Bool) (w : World) (hr0 : Kd.C k41 w A0 l0.length l0) (hc0 : l0.length ≤ c0) (h : quoinref16_term.f k l0 a1 = some r) :
  Calls Tryd.prog 44 #[.slice A0 l0.length c0, .int .i64 a1] w fun e w' => e = .returned (.bool r) ∧ Drawn0 w w' := by
 have HR0 := Aside0.mk hr0
 have HC0 := Aside0.mk hc0
 clear hr0 hc0
 have H : (if a1 < (l0.length : Int) then (if 0 ≤ a1 then (if ((rd_T41 l0 a1).f0) = 2 then (some true) else (if ((rd_T41 l0 a1).f0) = 1 then ((quoinref16_Word.f k ((rd_T41 l0 a1).f1)).bind fun t301 => (some t301)) else (some false))) else (none)) else (some false)) = some r := h
 clear h
 by_cases c3 : a1 < (l0.length : Int)
 ·
  rw [if_pos c3] at H
  have c3b0 : decide (a1 < (l0.length : Int)) = true := decide_eq_true c3
  clear c3
  by_cases c4 : 0 ≤ a1
  ·
   rw [if_pos c4] at H
   have c4b0 : decide (0 ≤ a1) = true := decide_eq_true c4
   clear c4
   by_cases c5 : ((rd_T41 l0 a1).f0) = 2
   ·
    rw [if_pos c5] at H
    have c5b0 : (((rd_T41 l0 a1).f0) == 2) = true := beq_iff_eq.mpr c5
    have c5b1 : (((rd_T41 l0 a1).f0) != 2) = false := bne_eq_false_iff_eq.mpr c5
    clear c5
    obtain rfl := Option.some.inj H
    have p298 : 0 ≤ (a1 : Int) := of_decide_eq_true (by first | (with_reducible assumption) | assumption)
    have q298 : a1 < (l0.length : Int) := of_decide_eq_true (by first | (with_reducible assumption) | assumption)
    obtain ⟨ad298, e298, hx298_0, hx298_1, hx298_2⟩ := at_T41 HR0.out a1 p298 q298
    cases e298
    replace p298 := eq_true p298
    replace q298 := eq_true q298
    go_enter Tryd.func44, Tryd.ntmps44
    go_wp2
    go_ret
    exact ⟨by first | rfl | (simp; done) | (simp [*]; done), by repeat (first | exact Drawn0.refl _ | apply Drawn0.step)⟩
   ·
    rw [if_neg c5] at H
    have c5b0 : (((rd_T41 l0 a1).f0) == 2) = false := beq_eq_false_iff_ne.mpr c5
    have c5b1 : (((rd_T41 l0 a1).f0) != 2) = true := bne_iff_ne.mpr c5
    by_cases c6 : ((rd_T41 l0 a1).f0) = 1
    ·
     rw [if_pos c6] at H
     have c6b0 : (((rd_T41 l0 a1).f0) == 1) = true := beq_iff_eq.mpr c6
     have c6b1 : (((rd_T41 l0 a1).f0) != 1) = false := bne_eq_false_iff_eq.mpr c6
     clear c6
     replace H := Option.bind_eq_some_iff.mp H
     obtain ⟨t301, A70, H⟩ := H
     replace H : (some t301) = some r := H
     have A7 := Aside0.mk A70
     clear A70
     obtain rfl := Option.some.inj H
     have p298 : 0 ≤ (a1 : Int) := of_decide_eq_true (by first | (with_reducible assumption) | assumption)
     have q298 : a1 < (l0.length : Int) := of_decide_eq_true (by first | (with_reducible assumption) | assumption)
     obtain ⟨ad298, e298, hx298_0, hx298_1, hx298_2⟩ := at_T41 HR0.out a1 p298 q298
     cases e298
     replace p298 := eq_true p298
     replace q298 := eq_true q298
     have p299 : 0 ≤ (a1 : Int) := of_decide_eq_true (by first | (with_reducible assumption) | assumption)
     have q299 : a1 < (l0.length : Int) := of_decide_eq_true (by first | (with_reducible assumption) | assumption)
     obtain ⟨ad299, e299, hx299_0, hx299_1, hx299_2⟩ := at_T41 HR0.out a1 p299 q299
     obtain rfl : ad298 = ad299 := (by injection e299)
     replace p299 := eq_true p299
     replace q299 := eq_true q299
     have p300 : 0 ≤ (a1 : Int) := of_decide_eq_true (by first | (with_reducible assumption) | assumption)
     have q300 : a1 < (l0.length : Int) := of_decide_eq_true (by first | (with_reducible assumption) | assumption)
     obtain ⟨ad300, e300, hx300_0, hx300_1, hx300_2⟩ := at_T41 HR0.out a1 p300 q300
     obtain rfl : ad298 = ad300 := (by injection e300)
     replace p300 := eq_true p300
     replace q300 := eq_true q300
     go_enter Tryd.func44, Tryd.ntmps44
     go_wp2_with (first | (go_at_call 37; (with_reducible refine (quoinref16_Word.calls k ((rd_T41 l0 a1).f1) t301 _ A7.out).mono ?_); rintro e w' ⟨rfl, ⟨nd, rfl⟩⟩))
     go_ret
     exact ⟨by first | rfl | (simp; done) | (simp [*]; done), by repeat (first | exact Drawn0.refl _ | apply Drawn0.step)⟩
    ·
     rw [if_neg c6] at H
     have c6b0 : (((rd_T41 l0 a1).f0) == 1) = false := beq_eq_false_iff_ne.mpr c6
     have c6b1 : (((rd_T41 l0 a1).f0) != 1) = true := bne_iff_ne.mpr c6
     obtain rfl := Option.some.inj H
     have p298 : 0 ≤ (a1 : Int) := of_decide_eq_true (by first | (with_reducible assumption) | assumption)
     have q298 : a1 < (l0.length : Int) := of_decide_eq_true (by first | (with_reducible assumption) | assumption)
     obtain ⟨ad298, e298, hx298_0, hx298_1, hx298_2⟩ := at_T41 HR0.out a1 p298 q298
     cases e298
     replace p298 := eq_true p298
     replace q298 := eq_true q298
     have p299 : 0 ≤ (a1 : Int) := of_decide_eq_true (by first | (with_reducible assumption) | assumption)
     have q299 : a1 < (l0.length : Int) := of_decide_eq_true (by first | (with_reducible assumption) | assumption)
     obtain ⟨ad299, e299, hx299_0, hx299_1, hx299_2⟩ := at_T41 HR0.out a1 p299 q299
     obtain rfl : ad298 = ad299 := (by injection e299)
     replace p299 := eq_true p299
     replace q299 := eq_true q299
     go_enter Tryd.func44, Tryd.ntmps44
     go_wp2
     go_ret
     exact ⟨by first | rfl | (simp; done) | (simp [*]; done), by repeat (first | exact Drawn0.refl _ | apply Drawn0.step)⟩
  ·
   rw [if_neg c4] at H
   exact absurd H (by simp)
 ·
  rw [if_neg c3] at H
  have c3b0 : decide (a1 < (l0.length : Int)) = false := decide_eq_false c3
  clear c3
  obtain rfl := Option.some.inj H
  go_enter Tryd.func44, Tryd.ntmps44
  go_wp2
  go_ret
  exact ⟨by first | rfl | (simp; done) | (simp [*]; done), by repeat (first | exact Drawn0.refl _ | apply Drawn0.step)⟩

/-! ### quoinref16_sum: function 33 -/
mutual
def quoinref16_sum.l0 : Nat → List (S41) → Int → Int → Int → Int → ByteArray → ByteArray → Int → Int → Option (ByteArray × ByteArray × Int × Int × Int)
 | 0, _, _, _, _, _, _, _, _, _ => none
 | k + 1, x0, x1, x7, x8, x9, x304000, x304001, x304002, x304003 => if x9 ≤ (x0.length : Int) then ((quoinref16_Is.f x0 x1 (⟨#[45]⟩ : ByteArray)).bind fun t304 => (if t304 = true then (quoinref16_sum.j1 k x0 x1 x7 x8 x9 t304 true x304000 x304001 x304002 x304003) else ((quoinref16_Is.f x0 x1 (⟨#[43]⟩ : ByteArray)).bind fun t305 => (quoinref16_sum.j1 k x0 x1 x7 x8 x9 t304 t305 x304000 x304001 x304002 x304003)))) else (if x7 > 1 then (some (x304000, x304001, x304002, x304003, (-1))) else (if x8 > 1 then (some (x304000, x304001, x304002, x304003, (-1))) else (if x8 > x7 then (some (x304000, x304001, x304002, x304003, (-1))) else (some (x304000, x304001, x304002, x304003, x1)))))
def quoinref16_sum.j1 : Nat → List (S41) → Int → Int → Int → Int → Bool → Bool → ByteArray → ByteArray → Int → Int → Option (ByteArray × ByteArray × Int × Int × Int)
 | 0, _, _, _, _, _, _, _, _, _, _, _ => none
 | k + 1, x0, x1, x7, x8, x9, x10, x11, x304000, x304001, x304002, x304003 => if x9 > 0 then (if x11 = true then ((quoinref16_term.f k x0 (wrap64 (x1 + 1))).bind fun t306 => (quoinref16_sum.j2 k x0 x1 x7 x8 x9 x10 x11 (!t306) x304000 x304001 x304002 x304003)) else (quoinref16_sum.j2 k x0 x1 x7 x8 x9 x10 x11 true x304000 x304001 x304002 x304003)) else (quoinref16_sum.j2 k x0 x1 x7 x8 x9 x10 x11 false x304000 x304001 x304002 x304003)
def quoinref16_sum.j2 : Nat → List (S41) → Int → Int → Int → Int → Bool → Bool → Bool → ByteArray → ByteArray → Int → Int → Option (ByteArray × ByteArray × Int × Int × Int)
 | 0, _, _, _, _, _, _, _, _, _, _, _, _ => none
 | k + 1, x0, x1, x7, x8, x9, x10, x11, x40, x304000, x304001, x304002, x304003 => if x40 = true then (if x7 > 1 then (some (x304000, x304001, x304002, x304003, (-1))) else (if x8 > 1 then (some (x304000, x304001, x304002, x304003, (-1))) else (if x8 > x7 then (some (x304000, x304001, x304002, x304003, (-1))) else (some (x304000, x304001, x304002, x304003, x1))))) else (if x11 = true then (quoinref16_sum.j3 k x0 (wrap64 (x1 + 1)) x7 x8 x9 x10 x304000 x304001 x304002 x304003) else (quoinref16_sum.j3 k x0 x1 x7 x8 x9 x10 x304000 x304001 x304002 x304003))
def quoinref16_sum.j3 : Nat → List (S41) → Int → Int → Int → Int → Bool → ByteArray → ByteArray → Int → Int → Option (ByteArray × ByteArray × Int × Int × Int)
 | 0, _, _, _, _, _, _, _, _, _, _ => none
 | k + 1, x0, x1, x7, x8, x9, x10, x304000, x304001, x304002, x304003 => (quoinref16_term.f k x0 x1).bind fun t307 => (if t307 = true then (if 0 ≤ x1 then (if x1 < (x0.length : Int) then (if ((rd_T41 x0 x1).f0) = 2 then (quoinref16_sum.j4 k x0 (wrap64 (x1 + 1)) x7 x8 x9 x10 x10 x304000 x304001 x304002 x304003 ((rd_T41 x0 x1).f0) ((rd_T41 x0 x1).f1) ((rd_T41 x0 x1).f2)) else (quoinref16_sum.j4 k x0 (wrap64 (x1 + 1)) x7 x8 x9 x10 false x304000 x304001 x304002 x304003 ((rd_T41 x0 x1).f0) ((rd_T41 x0 x1).f1) ((rd_T41 x0 x1).f2))) else (none)) else (none)) else (some (x304000, x304001, x304002, x304003, (-1))))
def quoinref16_sum.j4 : Nat → List (S41) → Int → Int → Int → Int → Bool → Bool → ByteArray → ByteArray → Int → Int → Int → ByteArray → Int → Option (ByteArray × ByteArray × Int × Int × Int)
 | 0, _, _, _, _, _, _, _, _, _, _, _, _, _, _ => none
 | k + 1, x0, x1, x7, x8, x9, x10, x60, x304000, x304001, x304002, x304003, x310000, x310001, x310002 => if x60 = true then (quoinref16_sum.l0 k x0 x1 x7 x8 (wrap64 (x9 + 1)) x304000 x304001 (wrap64 (x304002 - x310002)) x304003) else (if x310000 = 2 then (quoinref16_sum.l0 k x0 x1 x7 x8 (wrap64 (x9 + 1)) x304000 x304001 (wrap64 (x304002 + x310002)) x304003) else (if x10 = true then (quoinref16_sum.l0 k x0 x1 x7 (wrap64 (x8 + 1)) (wrap64 (x9 + 1)) x304000 x310001 x304002 x304003) else (quoinref16_sum.l0 k x0 x1 (wrap64 (x7 + 1)) x8 (wrap64 (x9 + 1)) x310001 x304001 x304002 x304003)))
end
def quoinref16_sum.f (k : Nat) (l0 : List (S41)) (a1 : Int) : Option (ByteArray × ByteArray × Int × Int × Int) := quoinref16_sum.l0 k l0 a1 0 0 0 (⟨#[]⟩ : ByteArray) (⟨#[]⟩ : ByteArray) 0 0
theorem quoinref16_sum.mono_l : ∀ k, (∀ y0 y1 y2 y3 y4 y5 y6 y7 y8, LeO (quoinref16_sum.l0 k y0 y1 y2 y3 y4 y5 y6 y7 y8) (quoinref16_sum.l0 (k + 1) y0 y1 y2 y3 y4 y5 y6 y7 y8)) ∧ (∀ y0 y1 y2 y3 y4 y5 y6 y7 y8 y9 y10, LeO (quoinref16_sum.j1 k y0 y1 y2 y3 y4 y5 y6 y7 y8 y9 y10) (quoinref16_sum.j1 (k + 1) y0 y1 y2 y3 y4 y5 y6 y7 y8 y9 y10)) ∧ (∀ y0 y1 y2 y3 y4 y5 y6 y7 y8 y9 y10 y11, LeO (quoinref16_sum.j2 k y0 y1 y2 y3 y4 y5 y6 y7 y8 y9 y10 y11) (quoinref16_sum.j2 (k + 1) y0 y1 y2 y3 y4 y5 y6 y7 y8 y9 y10 y11)) ∧ (∀ y0 y1 y2 y3 y4 y5 y6 y7 y8 y9, LeO (quoinref16_sum.j3 k y0 y1 y2 y3 y4 y5 y6 y7 y8 y9) (quoinref16_sum.j3 (k + 1) y0 y1 y2 y3 y4 y5 y6 y7 y8 y9)) ∧ (∀ y0 y1 y2 y3 y4 y5 y6 y7 y8 y9 y10 y11 y12 y13, LeO (quoinref16_sum.j4 k y0 y1 y2 y3 y4 y5 y6 y7 y8 y9 y10 y11 y12 y13) (quoinref16_sum.j4 (k + 1) y0 y1 y2 y3 y4 y5 y6 y7 y8 y9 y10 y11 y12 y13))
 | 0 => ⟨fun _ _ _ _ _ _ _ _ _ r h => by simp [quoinref16_sum.l0] at h, fun _ _ _ _ _ _ _ _ _ _ _ r h => by simp [quoinref16_sum.j1] at h, fun _ _ _ _ _ _ _ _ _ _ _ _ r h => by simp [quoinref16_sum.j2] at h, fun _ _ _ _ _ _ _ _ _ _ r h => by simp [quoinref16_sum.j3] at h, fun _ _ _ _ _ _ _ _ _ _ _ _ _ _ r h => by simp [quoinref16_sum.j4] at h⟩
 | k + 1 => by
  obtain ⟨ih0, ih1, ih2, ih3, ih4⟩ := quoinref16_sum.mono_l k
  refine ⟨?_, ?_, ?_, ?_, ?_⟩
  ·
   intro y0 y1 y2 y3 y4 y5 y6 y7 y8
   unfold quoinref16_sum.l0
   repeat' first
   | (with_reducible exact ih0 _ _ _ _ _ _ _ _ _)
   | (with_reducible exact ih1 _ _ _ _ _ _ _ _ _ _ _)
   | (with_reducible exact ih2 _ _ _ _ _ _ _ _ _ _ _ _)
   | (with_reducible exact ih3 _ _ _ _ _ _ _ _ _ _)
   | (with_reducible exact ih4 _ _ _ _ _ _ _ _ _ _ _ _ _ _)
   | (with_reducible exact quoinref16_term.mono _ _ _)
   | (with_reducible exact LeO.refl _)
   | (with_reducible exact LeO.none _)
   | (with_reducible refine LeO.ite ?_ ?_)
   | (with_reducible refine LeO.bind ?_ (fun _ => ?_))
   | exact ih0 _ _ _ _ _ _ _ _ _
   | exact ih1 _ _ _ _ _ _ _ _ _ _ _
   | exact ih2 _ _ _ _ _ _ _ _ _ _ _ _
   | exact ih3 _ _ _ _ _ _ _ _ _ _
   | exact ih4 _ _ _ _ _ _ _ _ _ _ _ _ _ _
   | exact quoinref16_term.mono _ _ _
   | exact LeO.none _
   | refine LeO.ite ?_ ?_
   | refine LeO.bind ?_ (fun _ => ?_)
  ·
   intro y0 y1 y2 y3 y4 y5 y6 y7 y8 y9 y10
   unfold quoinref16_sum.j1
   repeat' first
   | (with_reducible exact ih0 _ _ _ _ _ _ _ _ _)
   | (with_reducible exact ih1 _ _ _ _ _ _ _ _ _ _ _)
   | (with_reducible exact ih2 _ _ _ _ _ _ _ _ _ _ _ _)
   | (with_reducible exact ih3 _ _ _ _ _ _ _ _ _ _)
   | (with_reducible exact ih4 _ _ _ _ _ _ _ _ _ _ _ _ _ _)
   | (with_reducible exact quoinref16_term.mono _ _ _)
   | (with_reducible exact LeO.refl _)
   | (with_reducible exact LeO.none _)
   | (with_reducible refine LeO.ite ?_ ?_)
   | (with_reducible refine LeO.bind ?_ (fun _ => ?_))
   | exact ih0 _ _ _ _ _ _ _ _ _
   | exact ih1 _ _ _ _ _ _ _ _ _ _ _
   | exact ih2 _ _ _ _ _ _ _ _ _ _ _ _
   | exact ih3 _ _ _ _ _ _ _ _ _ _
   | exact ih4 _ _ _ _ _ _ _ _ _ _ _ _ _ _
   | exact quoinref16_term.mono _ _ _
   | exact LeO.none _
   | refine LeO.ite ?_ ?_
   | refine LeO.bind ?_ (fun _ => ?_)
  ·
   intro y0 y1 y2 y3 y4 y5 y6 y7 y8 y9 y10 y11
   unfold quoinref16_sum.j2
   repeat' first
   | (with_reducible exact ih0 _ _ _ _ _ _ _ _ _)
   | (with_reducible exact ih1 _ _ _ _ _ _ _ _ _ _ _)
   | (with_reducible exact ih2 _ _ _ _ _ _ _ _ _ _ _ _)
   | (with_reducible exact ih3 _ _ _ _ _ _ _ _ _ _)
   | (with_reducible exact ih4 _ _ _ _ _ _ _ _ _ _ _ _ _ _)
   | (with_reducible exact quoinref16_term.mono _ _ _)
   | (with_reducible exact LeO.refl _)
   | (with_reducible exact LeO.none _)
   | (with_reducible refine LeO.ite ?_ ?_)
   | (with_reducible refine LeO.bind ?_ (fun _ => ?_))
   | exact ih0 _ _ _ _ _ _ _ _ _
   | exact ih1 _ _ _ _ _ _ _ _ _ _ _
   | exact ih2 _ _ _ _ _ _ _ _ _ _ _ _
   | exact ih3 _ _ _ _ _ _ _ _ _ _
   | exact ih4 _ _ _ _ _ _ _ _ _ _ _ _ _ _
   | exact quoinref16_term.mono _ _ _
   | exact LeO.none _
   | refine LeO.ite ?_ ?_
   | refine LeO.bind ?_ (fun _ => ?_)
  ·
   intro y0 y1 y2 y3 y4 y5 y6 y7 y8 y9
   unfold quoinref16_sum.j3
   repeat' first
   | (with_reducible exact ih0 _ _ _ _ _ _ _ _ _)
   | (with_reducible exact ih1 _ _ _ _ _ _ _ _ _ _ _)
   | (with_reducible exact ih2 _ _ _ _ _ _ _ _ _ _ _ _)
   | (with_reducible exact ih3 _ _ _ _ _ _ _ _ _ _)
   | (with_reducible exact ih4 _ _ _ _ _ _ _ _ _ _ _ _ _ _)
   | (with_reducible exact quoinref16_term.mono _ _ _)
   | (with_reducible exact LeO.refl _)
   | (with_reducible exact LeO.none _)
   | (with_reducible refine LeO.ite ?_ ?_)
   | (with_reducible refine LeO.bind ?_ (fun _ => ?_))
   | exact ih0 _ _ _ _ _ _ _ _ _
   | exact ih1 _ _ _ _ _ _ _ _ _ _ _
   | exact ih2 _ _ _ _ _ _ _ _ _ _ _ _
   | exact ih3 _ _ _ _ _ _ _ _ _ _
   | exact ih4 _ _ _ _ _ _ _ _ _ _ _ _ _ _
   | exact quoinref16_term.mono _ _ _
   | exact LeO.none _
   | refine LeO.ite ?_ ?_
   | refine LeO.bind ?_ (fun _ => ?_)
  ·
   intro y0 y1 y2 y3 y4 y5 y6 y7 y8 y9 y10 y11 y12 y13
   unfold quoinref16_sum.j4
   repeat' first
   | (with_reducible exact ih0 _ _ _ _ _ _ _ _ _)
   | (with_reducible exact ih1 _ _ _ _ _ _ _ _ _ _ _)
   | (with_reducible exact ih2 _ _ _ _ _ _ _ _ _ _ _ _)
   | (with_reducible exact ih3 _ _ _ _ _ _ _ _ _ _)
   | (with_reducible exact ih4 _ _ _ _ _ _ _ _ _ _ _ _ _ _)
   | (with_reducible exact quoinref16_term.mono _ _ _)
   | (with_reducible exact LeO.refl _)
   | (with_reducible exact LeO.none _)
   | (with_reducible refine LeO.ite ?_ ?_)
   | (with_reducible refine LeO.bind ?_ (fun _ => ?_))
   | exact ih0 _ _ _ _ _ _ _ _ _
   | exact ih1 _ _ _ _ _ _ _ _ _ _ _
   | exact ih2 _ _ _ _ _ _ _ _ _ _ _ _
   | exact ih3 _ _ _ _ _ _ _ _ _ _
   | exact ih4 _ _ _ _ _ _ _ _ _ _ _ _ _ _
   | exact quoinref16_term.mono _ _ _
   | exact LeO.none _
   | refine LeO.ite ?_ ?_
   | refine LeO.bind ?_ (fun _ => ?_)
theorem quoinref16_sum.mono : ∀ a0 a1 k, LeO (quoinref16_sum.f k a0 a1) (quoinref16_sum.f (k + 1) a0 a1) := by
 intro a0 a1 k
 obtain ⟨ih0, ih1, ih2, ih3, ih4⟩ := quoinref16_sum.mono_l k
 unfold quoinref16_sum.f
 repeat' first
   | (with_reducible exact ih0 _ _ _ _ _ _ _ _ _)
   | (with_reducible exact ih1 _ _ _ _ _ _ _ _ _ _ _)
   | (with_reducible exact ih2 _ _ _ _ _ _ _ _ _ _ _ _)
   | (with_reducible exact ih3 _ _ _ _ _ _ _ _ _ _)
   | (with_reducible exact ih4 _ _ _ _ _ _ _ _ _ _ _ _ _ _)
   | (with_reducible exact quoinref16_term.mono _ _ _)
   | (with_reducible exact LeO.refl _)
   | (with_reducible exact LeO.none _)
   | (with_reducible refine LeO.ite ?_ ?_)
   | (with_reducible refine LeO.bind ?_ (fun _ => ?_))
   | exact ih0 _ _ _ _ _ _ _ _ _
   | exact ih1 _ _ _ _ _ _ _ _ _ _ _
   | exact ih2 _ _ _ _ _ _ _ _ _ _ _ _
   | exact ih3 _ _ _ _ _ _ _ _ _ _
   | exact ih4 _ _ _ _ _ _ _ _ _ _ _ _ _ _
   | exact quoinref16_term.mono _ _ _
   | exact LeO.none _
   | refine LeO.ite ?_ ?_
   | refine LeO.bind ?_ (fun _ => ?_)
set_option maxHeartbeats 8000000 in
set_option maxRecDepth 100000 in
theorem quoinref16_sum.calls (k : Nat) (A0 : Option Addr) (c0 : Nat) (l0 : List (S41)) (a1 : Int) (r1 : ByteArray) (r2 : ByteArray) (r3 : Int) (r4 : Int) (r5 : Int) (w : World) (hr0 : Kd.C k41 w A0 l0.length l0) (hc0 : l0.length ≤ c0) (h : quoinref16_sum.f k l0 a1 = some (r1, r2, r3, r4, r5)) :
  Calls Tryd.prog 33 #[.slice A0 l0.length c0, .int .i64 a1] w fun e w' => e = .returned (.tuple #[.agg #[.string r1, .string r2, .int .i64 r3, .int .u8 r4], .int .i64 r5]) ∧ Below w.heap.size w w' := by
 have hu23 := Tryd.underlying23
 have hu41 := Tryd.underlying41
 have HR0 := Aside0.mk hr0
 have HC0 := Aside0.mk hc0
 clear hr0 hc0
 have HB := Aside0.mk (Below.refl w.heap.size w)
 have H : (quoinref16_sum.l0 k l0 a1 0 0 0 (⟨#[]⟩ : ByteArray) (⟨#[]⟩ : ByteArray) 0 0) = some (r1, r2, r3, r4, r5) := h
 clear h
 have H' := Aside0.mk H
 clear H
 go_enter Tryd.func33, Tryd.ntmps33
 go_wp2_with (first | ((with_reducible refine gate_dst (N := 4) rfl ?_); refine box_event ?hg (N := 4) ?hd (cs := #[.string (⟨#[]⟩ : ByteArray), .string (⟨#[]⟩ : ByteArray), .int .i64 0, .int .u8 0]) (t := 23) ?hr ?_; (case hd => rfl); (case hg => rfl); (case hr => first | (go_simp; done) | (go_simp; rfl)); intro gb302 hg w3 hbox hb; have n0_ := Aside0.mk (below_step (by repeat (first | (with_reducible first | exact HB.out | apply below_alloc | apply pw_below_drewN | apply below_drew1) | exact HB.out)) hb); have n1_ := Aside0.mk (hbox); have n2_ := Aside0.mk ((by rw [hg]; exact (below_size (by repeat (first | (with_reducible first | exact HB.out | apply below_alloc | apply pw_below_drewN | apply below_drew1) | exact HB.out))) : w.heap.size ≤ gb302)); have n3_ := Aside0.mk ((by rw [hg]; exact (below_size (by repeat (first | (with_reducible first | exact HB.out | apply below_alloc | apply pw_below_drewN | apply below_drew1) | exact HB.out))) : w.heap.size ≤ gb302)); clear HB; have HB := n0_; have BK302 := n1_; have GW302 := n2_; have GE302 := n3_; clear n0_ n1_ n2_ n3_; clear hb hbox hg) | ((with_reducible refine gate_dst (N := 6) rfl ?_); refine box_event ?hg (N := 6) ?hd (cs := #[.string (⟨#[]⟩ : ByteArray), .string (⟨#[]⟩ : ByteArray), .int .i64 0, .int .u8 0]) (t := 23) ?hr ?_; (case hd => rfl); (case hg => rfl); (case hr => first | (go_simp; done) | (go_simp; rfl)); intro gb303 hg w4 hbox hb; have n0_ := Aside0.mk (blk_below (g := gb302) (o := .cells #[.string (⟨#[]⟩ : ByteArray), .string (⟨#[]⟩ : ByteArray), .int .i64 0, .int .u8 0] 23 (0, 0)) (by (with_reducible repeat (first | refine blk_drewN ?_ _ | refine blk_drew ?_ | refine blk_alloc ?_ _)); exact BK302.out) hb); have n1_ := Aside0.mk (below_step (by repeat (first | (with_reducible first | exact HB.out | apply below_alloc | apply pw_below_drewN | apply below_drew1 | refine below_set ?_ GE302.out) | exact HB.out)) hb); have n2_ := Aside0.mk (hbox); have n3_ := Aside0.mk ((by rw [hg]; exact (below_size (by repeat (first | (with_reducible first | exact HB.out | apply below_alloc | apply pw_below_drewN | apply below_drew1 | refine below_set ?_ GE302.out) | exact HB.out))) : w.heap.size ≤ gb303)); have n4_ := Aside0.mk ((by rw [hg]; exact (below_size (by repeat (first | (with_reducible first | exact HB.out | apply below_alloc | apply pw_below_drewN | apply below_drew1 | refine below_set ?_ GE302.out) | exact HB.out))) : w.heap.size ≤ gb303)); have n5_ := Aside0.mk ((by rw [hg]; exact Nat.ne_of_lt (blk_lt (g := gb302) (o := .cells #[.string (⟨#[]⟩ : ByteArray), .string (⟨#[]⟩ : ByteArray), .int .i64 0, .int .u8 0] 23 (0, 0)) (by (with_reducible repeat (first | refine blk_drewN ?_ _ | refine blk_drew ?_ | refine blk_alloc ?_ _)); exact BK302.out)) : gb302 ≠ gb303)); have n6_ := Aside0.mk ((by rw [hg]; exact Nat.ne_of_gt (blk_lt (g := gb302) (o := .cells #[.string (⟨#[]⟩ : ByteArray), .string (⟨#[]⟩ : ByteArray), .int .i64 0, .int .u8 0] 23 (0, 0)) (by (with_reducible repeat (first | refine blk_drewN ?_ _ | refine blk_drew ?_ | refine blk_alloc ?_ _)); exact BK302.out)) : gb303 ≠ gb302)); clear BK302; clear HB; have BK302 := n0_; have HB := n1_; have BK303 := n2_; have GW303 := n3_; have GE303 := n4_; have NB302_303 := n5_; have NB303_302 := n6_; clear n0_ n1_ n2_ n3_ n4_ n5_ n6_; clear hb hbox hg))
 go_loopg [1, 7, 8, 9] k (fun kq v1 v7 v8 v9 w' => ∃ (x1_1 : Int) (x7_1 : Int) (x8_1 : Int) (x9_1 : Int) (x303000_1 : ByteArray) (x303001_1 : ByteArray) (x303002_1 : Int) (x303003_1 : Int) (x304000_1 : ByteArray) (x304001_1 : ByteArray) (x304002_1 : Int), v1 = .int .i64 x1_1 ∧ v7 = .int .i64 x7_1 ∧ v8 = .int .i64 x8_1 ∧ v9 = .int .i64 x9_1 ∧ Aside0 (quoinref16_sum.l0 kq l0 x1_1 x7_1 x8_1 x9_1 x304000_1 x304001_1 x304002_1 0 = some (r1, r2, r3, r4, r5)) ∧ Aside0 (kq ≤ k) ∧ Aside0 (w'.heap[gb302]? = some (.cells #[.string x303000_1, .string x303001_1, .int .i64 x303002_1, .int .u8 x303003_1] 23 (0, 0))) ∧ Aside0 (w'.heap[gb303]? = some (.cells #[.string x304000_1, .string x304001_1, .int .i64 x304002_1, .int .u8 0] 23 (0, 0))) ∧ Aside0 (Below w.heap.size w w'))
 case atStart => exact ⟨(a1), (0), (0), (0), ((⟨#[]⟩ : ByteArray)), ((⟨#[]⟩ : ByteArray)), (0), (0), ((⟨#[]⟩ : ByteArray)), ((⟨#[]⟩ : ByteArray)), (0), (by first | rfl | (simp; done) | (simp [*]; done)), (by first | rfl | (simp; done) | (simp [*]; done)), (by first | rfl | (simp; done) | (simp [*]; done)), (by first | rfl | (simp; done) | (simp [*]; done)), H', ⟨Nat.le_refl _⟩, ⟨by (with_reducible repeat (first | refine blk_drewN ?_ _ | refine blk_drew ?_ | refine blk_alloc ?_ _)); exact BK302.out⟩, ⟨by (with_reducible repeat (first | refine blk_drewN ?_ _ | refine blk_drew ?_ | refine blk_alloc ?_ _)); exact BK303.out⟩, ⟨by repeat (first | (with_reducible first | exact HB.out | apply below_alloc | apply pw_below_drewN | apply below_drew1 | refine below_set ?_ GE302.out | refine below_set ?_ GE303.out) | exact HB.out)⟩⟩
 case round =>
  clear H'
  try clear p2
  try clear c3
  obtain ⟨x1_1, x7_1, x8_1, x9_1, x303000_1, x303001_1, x303002_1, x303003_1, x304000_1, x304001_1, x304002_1, rfl, rfl, rfl, rfl, HA, HK1, BK302, BK303, HB⟩ := hrel
  cases gk with
  | zero => exact absurd HA.out (by simp [quoinref16_sum.l0])
  | succ k1 =>
   have H := HA.out
   clear HA
   simp only [quoinref16_sum.l0] at H
   by_cases c5 : x9_1 ≤ (l0.length : Int)
   ·
    rw [if_pos c5] at H
    have c5b0 : decide (x9_1 ≤ (l0.length : Int)) = true := decide_eq_true c5
    clear c5
    replace H := Option.bind_eq_some_iff.mp H
    obtain ⟨t304, A60, H⟩ := H
    replace H : (if t304 = true then (quoinref16_sum.j1 k1 l0 x1_1 x7_1 x8_1 x9_1 t304 true x304000_1 x304001_1 x304002_1 0) else ((quoinref16_Is.f l0 x1_1 (⟨#[43]⟩ : ByteArray)).bind fun t305 => (quoinref16_sum.j1 k1 l0 x1_1 x7_1 x8_1 x9_1 t304 t305 x304000_1 x304001_1 x304002_1 0))) = some (r1, r2, r3, r4, r5) := H
    have A6 := Aside0.mk A60
    clear A60
    have HC7 := Aside0.mk H
    clear H
    go_upto_region 8 with (first | ((with_reducible refine gate_callee (f := 32) rfl ?_); refine goesL_ (some 21) rfl rfl Tryd.func32 (by kernel_rfl) rfl #[.slice A0 l0.length c0, .int .i64 x1_1, .string (⟨#[45]⟩ : ByteArray)] rfl (by (try simp only [List.map_toArray, List.map_cons, List.map_nil]); first | done | rfl | (simp only [List.length_drop, List.length_take]; rfl)) ?_; (with_reducible refine (quoinref16_Is.calls _ _ l0 x1_1 (⟨#[45]⟩ : ByteArray) t304 _ ?side1 ?side2 A6.out).mono ?_); (case side1 => repeat (first | exact (Kd.C_below HR0.out HB.out) | (with_reducible refine Kd.C_alloc ?_ _) | (with_reducible refine Kd.C_drewN ?_ _) | (with_reducible refine Kd.C_drew ?_))); (case side2 => exact HC0.out); rintro e w' ⟨rfl, ⟨nd, rfl⟩⟩; refine ⟨_, rfl, ?_⟩))
    (try simp only [Act.put, List.setIfInBounds_toArray, List.set_cons_zero, List.set_cons_succ])
    go_cut [11] (fun v11 wc => ∃ (kq : Nat) (x11_6 : Bool), v11 = .bool x11_6 ∧ Aside0 (quoinref16_sum.j1 kq l0 x1_1 x7_1 x8_1 x9_1 t304 x11_6 x304000_1 x304001_1 x304002_1 0 = some (r1, r2, r3, r4, r5)) ∧ Aside0 (kq ≤ k1) ∧ Aside0 (wc.heap[gb302]? = some (.cells #[.string x303000_1, .string x303001_1, .int .i64 x303002_1, .int .u8 x303003_1] 23 (0, 0))) ∧ Aside0 (wc.heap[gb303]? = some (.cells #[.string x304000_1, .string x304001_1, .int .i64 x304002_1, .int .u8 0] 23 (0, 0))) ∧ Aside0 (Below w.heap.size w wc))
    case first =>
     have H := HC7.out
     clear HC7
     by_cases c8 : t304 = true
     ·
      subst c8
      have H1 : (quoinref16_sum.j1 k1 l0 x1_1 x7_1 x8_1 x9_1 true true x304000_1 x304001_1 x304002_1 0) = some (r1, r2, r3, r4, r5) := by rw [if_pos rfl] at H; exact H
      clear H
      have H := H1
      clear H1
      have H' := Aside0.mk H
      clear H
      go_wp2
      go_meet
      case rel => exact ⟨_, (true), (by first | rfl | (simp; done) | (simp [*]; done)), H', ⟨by have := HK1.out; first | omega | exact Nat.le_refl _⟩, ⟨by (with_reducible repeat (first | refine blk_drewN ?_ _ | refine blk_drew ?_ | refine blk_alloc ?_ _)); exact BK302.out⟩, ⟨by (with_reducible repeat (first | refine blk_drewN ?_ _ | refine blk_drew ?_ | refine blk_alloc ?_ _)); exact BK303.out⟩, ⟨by repeat (first | (with_reducible first | exact HB.out | apply below_alloc | apply pw_below_drewN | apply below_drew1 | refine below_set ?_ GE302.out | refine below_set ?_ GE303.out) | exact HB.out)⟩⟩
     ·
      replace c8 := Bool.eq_false_iff.mpr c8
      subst c8
      have H1 : ((quoinref16_Is.f l0 x1_1 (⟨#[43]⟩ : ByteArray)).bind fun t305 => (quoinref16_sum.j1 k1 l0 x1_1 x7_1 x8_1 x9_1 false t305 x304000_1 x304001_1 x304002_1 0)) = some (r1, r2, r3, r4, r5) := by rw [if_neg (show ¬ (false = true) by decide)] at H; exact H
      clear H
      have H := H1
      clear H1
      replace H := Option.bind_eq_some_iff.mp H
      obtain ⟨t305, A90, H⟩ := H
      replace H : (quoinref16_sum.j1 k1 l0 x1_1 x7_1 x8_1 x9_1 false t305 x304000_1 x304001_1 x304002_1 0) = some (r1, r2, r3, r4, r5) := H
      have A9 := Aside0.mk A90
      clear A90
      have H' := Aside0.mk H
      clear H
      go_wp2_with (first | (go_at_call 32; (with_reducible refine (quoinref16_Is.calls _ _ l0 x1_1 (⟨#[43]⟩ : ByteArray) t305 _ ?side1 ?side2 A9.out).mono ?_); (case side1 => repeat (first | exact (Kd.C_below HR0.out HB.out) | (with_reducible refine Kd.C_alloc ?_ _) | (with_reducible refine Kd.C_drewN ?_ _) | (with_reducible refine Kd.C_drew ?_))); (case side2 => exact HC0.out); rintro e w' ⟨rfl, ⟨nd, rfl⟩⟩))
      go_meet
      case rel => exact ⟨_, (t305), (by first | rfl | (simp; done) | (simp [*]; done)), H', ⟨by have := HK1.out; first | omega | exact Nat.le_refl _⟩, ⟨by (with_reducible repeat (first | refine blk_drewN ?_ _ | refine blk_drew ?_ | refine blk_alloc ?_ _)); exact BK302.out⟩, ⟨by (with_reducible repeat (first | refine blk_drewN ?_ _ | refine blk_drew ?_ | refine blk_alloc ?_ _)); exact BK303.out⟩, ⟨by repeat (first | (with_reducible first | exact HB.out | apply below_alloc | apply pw_below_drewN | apply below_drew1 | refine below_set ?_ GE302.out | refine below_set ?_ GE303.out) | exact HB.out)⟩⟩
    case rest =>
     clear HC7
     try clear p2
     try clear c3
     try clear c5
     try clear c5b0
     try clear c8
     try clear p2
     obtain ⟨kq, x11_6, rfl, HA, HJ6, BK302, BK303, HB⟩ := hcut
     cases kq with
     | zero => exact absurd HA.out (by simp [quoinref16_sum.j1])
     | succ kj6 =>
      have H := HA.out
      clear HA
      simp only [quoinref16_sum.j1] at H
      have HC10 := Aside0.mk H
      clear H
      go_upto_region 9 with (fail)
      go_cut [40] (fun v40 wc => ∃ (kq : Nat) (x40_9 : Bool), v40 = .bool x40_9 ∧ Aside0 (quoinref16_sum.j2 kq l0 x1_1 x7_1 x8_1 x9_1 t304 x11_6 x40_9 x304000_1 x304001_1 x304002_1 0 = some (r1, r2, r3, r4, r5)) ∧ Aside0 (kq ≤ kj6) ∧ Aside0 (wc.heap[gb302]? = some (.cells #[.string x303000_1, .string x303001_1, .int .i64 x303002_1, .int .u8 x303003_1] 23 (0, 0))) ∧ Aside0 (wc.heap[gb303]? = some (.cells #[.string x304000_1, .string x304001_1, .int .i64 x304002_1, .int .u8 0] 23 (0, 0))) ∧ Aside0 (Below w.heap.size w wc))
      case first =>
       have H := HC10.out
       clear HC10
       by_cases c11 : x9_1 > 0
       ·
        rw [if_pos c11] at H
        have c11b0 : decide (0 < x9_1) = true := decide_eq_true c11
        clear c11
        (first | rw [c11b0] | (simp only [i64_w, i32_w]; rw [c11b0]) | skip)
        by_cases c12 : x11_6 = true
        ·
         subst c12
         have H1 : ((quoinref16_term.f kj6 l0 (wrap64 (x1_1 + 1))).bind fun t306 => (quoinref16_sum.j2 kj6 l0 x1_1 x7_1 x8_1 x9_1 t304 true (!t306) x304000_1 x304001_1 x304002_1 0)) = some (r1, r2, r3, r4, r5) := by rw [if_pos rfl] at H; exact H
         clear H
         have H := H1
         clear H1
         replace H := Option.bind_eq_some_iff.mp H
         obtain ⟨t306, A130, H⟩ := H
         replace H : (quoinref16_sum.j2 kj6 l0 x1_1 x7_1 x8_1 x9_1 t304 true (!t306) x304000_1 x304001_1 x304002_1 0) = some (r1, r2, r3, r4, r5) := H
         have A13 := Aside0.mk A130
         clear A130
         have H' := Aside0.mk H
         clear H
         go_wp2_with (first | (go_at_call 44; (with_reducible refine (quoinref16_term.calls kj6 _ _ l0 (wrap64 (x1_1 + 1)) t306 _ ?side1 ?side2 A13.out).mono ?_); (case side1 => repeat (first | exact (Kd.C_below HR0.out HB.out) | (with_reducible refine Kd.C_alloc ?_ _) | (with_reducible refine Kd.C_drewN ?_ _) | (with_reducible refine Kd.C_drew ?_))); (case side2 => exact HC0.out); rintro e w' ⟨rfl, ⟨nd, rfl⟩⟩))
         go_meet
         case rel => exact ⟨_, (!t306), (by first | rfl | (simp; done) | (simp [*]; done)), H', ⟨by have := HK1.out; have := HJ6.out; first | omega | exact Nat.le_refl _⟩, ⟨by (with_reducible repeat (first | refine blk_drewN ?_ _ | refine blk_drew ?_ | refine blk_alloc ?_ _)); exact BK302.out⟩, ⟨by (with_reducible repeat (first | refine blk_drewN ?_ _ | refine blk_drew ?_ | refine blk_alloc ?_ _)); exact BK303.out⟩, ⟨by repeat (first | (with_reducible first | exact HB.out | apply below_alloc | apply pw_below_drewN | apply below_drew1 | refine below_set ?_ GE302.out | refine below_set ?_ GE303.out) | exact HB.out)⟩⟩
        ·
         replace c12 := Bool.eq_false_iff.mpr c12
         subst c12
         have H1 : (quoinref16_sum.j2 kj6 l0 x1_1 x7_1 x8_1 x9_1 t304 false true x304000_1 x304001_1 x304002_1 0) = some (r1, r2, r3, r4, r5) := by rw [if_neg (show ¬ (false = true) by decide)] at H; exact H
         clear H
         have H := H1
         clear H1
         have H' := Aside0.mk H
         clear H
         go_wp2
         go_meet
         case rel => exact ⟨_, (true), (by first | rfl | (simp; done) | (simp [*]; done)), H', ⟨by have := HK1.out; have := HJ6.out; first | omega | exact Nat.le_refl _⟩, ⟨by (with_reducible repeat (first | refine blk_drewN ?_ _ | refine blk_drew ?_ | refine blk_alloc ?_ _)); exact BK302.out⟩, ⟨by (with_reducible repeat (first | refine blk_drewN ?_ _ | refine blk_drew ?_ | refine blk_alloc ?_ _)); exact BK303.out⟩, ⟨by repeat (first | (with_reducible first | exact HB.out | apply below_alloc | apply pw_below_drewN | apply below_drew1 | refine below_set ?_ GE302.out | refine below_set ?_ GE303.out) | exact HB.out)⟩⟩
       ·
        rw [if_neg c11] at H
        have c11b0 : decide (0 < x9_1) = false := decide_eq_false c11
        clear c11
        (first | rw [c11b0] | (simp only [i64_w, i32_w]; rw [c11b0]) | skip)
        have H' := Aside0.mk H
        clear H
        go_wp2
        go_meet
        case rel => exact ⟨_, (false), (by first | rfl | (simp; done) | (simp [*]; done)), H', ⟨by have := HK1.out; have := HJ6.out; first | omega | exact Nat.le_refl _⟩, ⟨by (with_reducible repeat (first | refine blk_drewN ?_ _ | refine blk_drew ?_ | refine blk_alloc ?_ _)); exact BK302.out⟩, ⟨by (with_reducible repeat (first | refine blk_drewN ?_ _ | refine blk_drew ?_ | refine blk_alloc ?_ _)); exact BK303.out⟩, ⟨by repeat (first | (with_reducible first | exact HB.out | apply below_alloc | apply pw_below_drewN | apply below_drew1 | refine below_set ?_ GE302.out | refine below_set ?_ GE303.out) | exact HB.out)⟩⟩
      case rest =>
       clear HC10
       try clear c1
       try clear p2
       try clear c3
       try clear c5
       try clear c5b0
       try clear p6
       try clear c8
       try clear c11
       try clear c11b0
       try clear c12
       try clear p2
       obtain ⟨kq, x40_9, rfl, HA, HJ9, BK302, BK303, HB⟩ := hcut
       cases kq with
       | zero => exact absurd HA.out (by simp [quoinref16_sum.j2])
       | succ kj9 =>
        have H := HA.out
        clear HA
        simp only [quoinref16_sum.j2] at H
        by_cases c14 : x40_9 = true
        ·
         subst c14
         have H1 : (if x7_1 > 1 then (some (x304000_1, x304001_1, x304002_1, 0, (-1))) else (if x8_1 > 1 then (some (x304000_1, x304001_1, x304002_1, 0, (-1))) else (if x8_1 > x7_1 then (some (x304000_1, x304001_1, x304002_1, 0, (-1))) else (some (x304000_1, x304001_1, x304002_1, 0, x1_1))))) = some (r1, r2, r3, r4, r5) := by rw [if_pos rfl] at H; exact H
         clear H
         have H := H1
         clear H1
         by_cases c15 : x7_1 > 1
         ·
          rw [if_pos c15] at H
          have c15b0 : decide (1 < x7_1) = true := decide_eq_true c15
          clear c15
          simp only [Option.some.injEq, Prod.mk.injEq] at H
          obtain ⟨rfl, rfl, rfl, rfl, rfl⟩ := H
          have hnb16 := NB303_302.out
          have hnc16 := NB302_303.out
          have hcz17_0 : wc.cell? ⟨gb303, 0, none⟩ = some (.string x304000_1) := (blk_cell BK303.out 0).trans rfl
          have hcz17_1 : wc.cell? ⟨gb303, 1, none⟩ = some (.string x304001_1) := (blk_cell BK303.out 1).trans rfl
          have hcz17_2 : wc.cell? ⟨gb303, 2, none⟩ = some (.int .i64 x304002_1) := (blk_cell BK303.out 2).trans rfl
          have hcz17_3 : wc.cell? ⟨gb303, 3, none⟩ = some (.int .u8 0) := (blk_cell BK303.out 3).trans rfl
          have hfz17_0 := blk_frozen BK303.out 0
          have hfz17_1 := blk_frozen BK303.out 1
          have hfz17_2 := blk_frozen BK303.out 2
          have hfz17_3 := blk_frozen BK303.out 3
          have hcz18_0 : wc.cell? ⟨gb302, 0, none⟩ = some (.string x303000_1) := (blk_cell BK302.out 0).trans rfl
          have hcz18_1 : wc.cell? ⟨gb302, 1, none⟩ = some (.string x303001_1) := (blk_cell BK302.out 1).trans rfl
          have hcz18_2 : wc.cell? ⟨gb302, 2, none⟩ = some (.int .i64 x303002_1) := (blk_cell BK302.out 2).trans rfl
          have hcz18_3 : wc.cell? ⟨gb302, 3, none⟩ = some (.int .u8 x303003_1) := (blk_cell BK302.out 3).trans rfl
          have hfz18_0 := blk_frozen BK302.out 0
          have hfz18_1 := blk_frozen BK302.out 1
          have hfz18_2 := blk_frozen BK302.out 2
          have hfz18_3 := blk_frozen BK302.out 3
          go_wp2
          refine bodyPost_ret (results_ct rfl _ _ gb302 23 #[.string x304000_1, .string x304001_1, .int .i64 x304002_1, .int .u8 0] (0, 0) _ rfl (by (with_reducible repeat (first | refine blk_drewN ?_ _ | refine blk_drew ?_ | refine blk_alloc ?_ _)); refine blk_put (cs := #[.string x304000_1, .string x304001_1, .int .i64 x304002_1, .int .u8 x303003_1]) ?_ 3 _ rfl; (with_reducible repeat (first | refine blk_drewN ?_ _ | refine blk_drew ?_ | refine blk_alloc ?_ _)); refine blk_put (cs := #[.string x304000_1, .string x304001_1, .int .i64 x303002_1, .int .u8 x303003_1]) ?_ 2 _ rfl; (with_reducible repeat (first | refine blk_drewN ?_ _ | refine blk_drew ?_ | refine blk_alloc ?_ _)); refine blk_put (cs := #[.string x304000_1, .string x303001_1, .int .i64 x303002_1, .int .u8 x303003_1]) ?_ 1 _ rfl; (with_reducible repeat (first | refine blk_drewN ?_ _ | refine blk_drew ?_ | refine blk_alloc ?_ _)); refine blk_put (cs := #[.string x303000_1, .string x303001_1, .int .i64 x303002_1, .int .u8 x303003_1]) ?_ 0 _ rfl; (with_reducible repeat (first | refine blk_drewN ?_ _ | refine blk_drew ?_ | refine blk_alloc ?_ _)); exact BK302.out) Tryd.underlying23 rfl (by kernel_rfl)) rfl ?_
          exact ⟨by first | rfl | (simp [errW_none, errW_some] <;> rfl) | (simp [*, errW_none, errW_some] <;> rfl), by repeat (first | (with_reducible first | exact HB.out | apply below_alloc | apply pw_below_drewN | apply below_drew1 | refine below_set ?_ GE302.out | refine below_set ?_ GE303.out) | exact HB.out)⟩
         ·
          rw [if_neg c15] at H
          have c15b0 : decide (1 < x7_1) = false := decide_eq_false c15
          clear c15
          by_cases c19 : x8_1 > 1
          ·
           rw [if_pos c19] at H
           have c19b0 : decide (1 < x8_1) = true := decide_eq_true c19
           clear c19
           simp only [Option.some.injEq, Prod.mk.injEq] at H
           obtain ⟨rfl, rfl, rfl, rfl, rfl⟩ := H
           have hnb20 := NB303_302.out
           have hnc20 := NB302_303.out
           have hcz21_0 : wc.cell? ⟨gb303, 0, none⟩ = some (.string x304000_1) := (blk_cell BK303.out 0).trans rfl
           have hcz21_1 : wc.cell? ⟨gb303, 1, none⟩ = some (.string x304001_1) := (blk_cell BK303.out 1).trans rfl
           have hcz21_2 : wc.cell? ⟨gb303, 2, none⟩ = some (.int .i64 x304002_1) := (blk_cell BK303.out 2).trans rfl
           have hcz21_3 : wc.cell? ⟨gb303, 3, none⟩ = some (.int .u8 0) := (blk_cell BK303.out 3).trans rfl
           have hfz21_0 := blk_frozen BK303.out 0
           have hfz21_1 := blk_frozen BK303.out 1
           have hfz21_2 := blk_frozen BK303.out 2
           have hfz21_3 := blk_frozen BK303.out 3
           have hcz22_0 : wc.cell? ⟨gb302, 0, none⟩ = some (.string x303000_1) := (blk_cell BK302.out 0).trans rfl
           have hcz22_1 : wc.cell? ⟨gb302, 1, none⟩ = some (.string x303001_1) := (blk_cell BK302.out 1).trans rfl
           have hcz22_2 : wc.cell? ⟨gb302, 2, none⟩ = some (.int .i64 x303002_1) := (blk_cell BK302.out 2).trans rfl
           have hcz22_3 : wc.cell? ⟨gb302, 3, none⟩ = some (.int .u8 x303003_1) := (blk_cell BK302.out 3).trans rfl
           have hfz22_0 := blk_frozen BK302.out 0
           have hfz22_1 := blk_frozen BK302.out 1
           have hfz22_2 := blk_frozen BK302.out 2
           have hfz22_3 := blk_frozen BK302.out 3
           go_wp2
           refine bodyPost_ret (results_ct rfl _ _ gb302 23 #[.string x304000_1, .string x304001_1, .int .i64 x304002_1, .int .u8 0] (0, 0) _ rfl (by (with_reducible repeat (first | refine blk_drewN ?_ _ | refine blk_drew ?_ | refine blk_alloc ?_ _)); refine blk_put (cs := #[.string x304000_1, .string x304001_1, .int .i64 x304002_1, .int .u8 x303003_1]) ?_ 3 _ rfl; (with_reducible repeat (first | refine blk_drewN ?_ _ | refine blk_drew ?_ | refine blk_alloc ?_ _)); refine blk_put (cs := #[.string x304000_1, .string x304001_1, .int .i64 x303002_1, .int .u8 x303003_1]) ?_ 2 _ rfl; (with_reducible repeat (first | refine blk_drewN ?_ _ | refine blk_drew ?_ | refine blk_alloc ?_ _)); refine blk_put (cs := #[.string x304000_1, .string x303001_1, .int .i64 x303002_1, .int .u8 x303003_1]) ?_ 1 _ rfl; (with_reducible repeat (first | refine blk_drewN ?_ _ | refine blk_drew ?_ | refine blk_alloc ?_ _)); refine blk_put (cs := #[.string x303000_1, .string x303001_1, .int .i64 x303002_1, .int .u8 x303003_1]) ?_ 0 _ rfl; (with_reducible repeat (first | refine blk_drewN ?_ _ | refine blk_drew ?_ | refine blk_alloc ?_ _)); exact BK302.out) Tryd.underlying23 rfl (by kernel_rfl)) rfl ?_
           exact ⟨by first | rfl | (simp [errW_none, errW_some] <;> rfl) | (simp [*, errW_none, errW_some] <;> rfl), by repeat (first | (with_reducible first | exact HB.out | apply below_alloc | apply pw_below_drewN | apply below_drew1 | refine below_set ?_ GE302.out | refine below_set ?_ GE303.out) | exact HB.out)⟩
          ·
           rw [if_neg c19] at H
           have c19b0 : decide (1 < x8_1) = false := decide_eq_false c19
           clear c19
           by_cases c23 : x8_1 > x7_1
           ·
            rw [if_pos c23] at H
            have c23b0 : decide (x7_1 < x8_1) = true := decide_eq_true c23
            clear c23
            simp only [Option.some.injEq, Prod.mk.injEq] at H
            obtain ⟨rfl, rfl, rfl, rfl, rfl⟩ := H
            have hnb24 := NB303_302.out
            have hnc24 := NB302_303.out
            have hcz25_0 : wc.cell? ⟨gb303, 0, none⟩ = some (.string x304000_1) := (blk_cell BK303.out 0).trans rfl
            have hcz25_1 : wc.cell? ⟨gb303, 1, none⟩ = some (.string x304001_1) := (blk_cell BK303.out 1).trans rfl
            have hcz25_2 : wc.cell? ⟨gb303, 2, none⟩ = some (.int .i64 x304002_1) := (blk_cell BK303.out 2).trans rfl
            have hcz25_3 : wc.cell? ⟨gb303, 3, none⟩ = some (.int .u8 0) := (blk_cell BK303.out 3).trans rfl
            have hfz25_0 := blk_frozen BK303.out 0
            have hfz25_1 := blk_frozen BK303.out 1
            have hfz25_2 := blk_frozen BK303.out 2
            have hfz25_3 := blk_frozen BK303.out 3
            have hcz26_0 : wc.cell? ⟨gb302, 0, none⟩ = some (.string x303000_1) := (blk_cell BK302.out 0).trans rfl
            have hcz26_1 : wc.cell? ⟨gb302, 1, none⟩ = some (.string x303001_1) := (blk_cell BK302.out 1).trans rfl
            have hcz26_2 : wc.cell? ⟨gb302, 2, none⟩ = some (.int .i64 x303002_1) := (blk_cell BK302.out 2).trans rfl
            have hcz26_3 : wc.cell? ⟨gb302, 3, none⟩ = some (.int .u8 x303003_1) := (blk_cell BK302.out 3).trans rfl
            have hfz26_0 := blk_frozen BK302.out 0
            have hfz26_1 := blk_frozen BK302.out 1
            have hfz26_2 := blk_frozen BK302.out 2
            have hfz26_3 := blk_frozen BK302.out 3
            go_wp2
            refine bodyPost_ret (results_ct rfl _ _ gb302 23 #[.string x304000_1, .string x304001_1, .int .i64 x304002_1, .int .u8 0] (0, 0) _ rfl (by (with_reducible repeat (first | refine blk_drewN ?_ _ | refine blk_drew ?_ | refine blk_alloc ?_ _)); refine blk_put (cs := #[.string x304000_1, .string x304001_1, .int .i64 x304002_1, .int .u8 x303003_1]) ?_ 3 _ rfl; (with_reducible repeat (first | refine blk_drewN ?_ _ | refine blk_drew ?_ | refine blk_alloc ?_ _)); refine blk_put (cs := #[.string x304000_1, .string x304001_1, .int .i64 x303002_1, .int .u8 x303003_1]) ?_ 2 _ rfl; (with_reducible repeat (first | refine blk_drewN ?_ _ | refine blk_drew ?_ | refine blk_alloc ?_ _)); refine blk_put (cs := #[.string x304000_1, .string x303001_1, .int .i64 x303002_1, .int .u8 x303003_1]) ?_ 1 _ rfl; (with_reducible repeat (first | refine blk_drewN ?_ _ | refine blk_drew ?_ | refine blk_alloc ?_ _)); refine blk_put (cs := #[.string x303000_1, .string x303001_1, .int .i64 x303002_1, .int .u8 x303003_1]) ?_ 0 _ rfl; (with_reducible repeat (first | refine blk_drewN ?_ _ | refine blk_drew ?_ | refine blk_alloc ?_ _)); exact BK302.out) Tryd.underlying23 rfl (by kernel_rfl)) rfl ?_
            exact ⟨by first | rfl | (simp [errW_none, errW_some] <;> rfl) | (simp [*, errW_none, errW_some] <;> rfl), by repeat (first | (with_reducible first | exact HB.out | apply below_alloc | apply pw_below_drewN | apply below_drew1 | refine below_set ?_ GE302.out | refine below_set ?_ GE303.out) | exact HB.out)⟩
           ·
            rw [if_neg c23] at H
            have c23b0 : decide (x7_1 < x8_1) = false := decide_eq_false c23
            clear c23
            simp only [Option.some.injEq, Prod.mk.injEq] at H
            obtain ⟨rfl, rfl, rfl, rfl, rfl⟩ := H
            have hnb27 := NB303_302.out
            have hnc27 := NB302_303.out
            have hcz28_0 : wc.cell? ⟨gb303, 0, none⟩ = some (.string x304000_1) := (blk_cell BK303.out 0).trans rfl
            have hcz28_1 : wc.cell? ⟨gb303, 1, none⟩ = some (.string x304001_1) := (blk_cell BK303.out 1).trans rfl
            have hcz28_2 : wc.cell? ⟨gb303, 2, none⟩ = some (.int .i64 x304002_1) := (blk_cell BK303.out 2).trans rfl
            have hcz28_3 : wc.cell? ⟨gb303, 3, none⟩ = some (.int .u8 0) := (blk_cell BK303.out 3).trans rfl
            have hfz28_0 := blk_frozen BK303.out 0
            have hfz28_1 := blk_frozen BK303.out 1
            have hfz28_2 := blk_frozen BK303.out 2
            have hfz28_3 := blk_frozen BK303.out 3
            have hcz29_0 : wc.cell? ⟨gb302, 0, none⟩ = some (.string x303000_1) := (blk_cell BK302.out 0).trans rfl
            have hcz29_1 : wc.cell? ⟨gb302, 1, none⟩ = some (.string x303001_1) := (blk_cell BK302.out 1).trans rfl
            have hcz29_2 : wc.cell? ⟨gb302, 2, none⟩ = some (.int .i64 x303002_1) := (blk_cell BK302.out 2).trans rfl
            have hcz29_3 : wc.cell? ⟨gb302, 3, none⟩ = some (.int .u8 x303003_1) := (blk_cell BK302.out 3).trans rfl
            have hfz29_0 := blk_frozen BK302.out 0
            have hfz29_1 := blk_frozen BK302.out 1
            have hfz29_2 := blk_frozen BK302.out 2
            have hfz29_3 := blk_frozen BK302.out 3
            go_wp2
            refine bodyPost_ret (results_ct rfl _ _ gb302 23 #[.string x304000_1, .string x304001_1, .int .i64 x304002_1, .int .u8 0] (0, 0) _ rfl (by (with_reducible repeat (first | refine blk_drewN ?_ _ | refine blk_drew ?_ | refine blk_alloc ?_ _)); refine blk_put (cs := #[.string x304000_1, .string x304001_1, .int .i64 x304002_1, .int .u8 x303003_1]) ?_ 3 _ rfl; (with_reducible repeat (first | refine blk_drewN ?_ _ | refine blk_drew ?_ | refine blk_alloc ?_ _)); refine blk_put (cs := #[.string x304000_1, .string x304001_1, .int .i64 x303002_1, .int .u8 x303003_1]) ?_ 2 _ rfl; (with_reducible repeat (first | refine blk_drewN ?_ _ | refine blk_drew ?_ | refine blk_alloc ?_ _)); refine blk_put (cs := #[.string x304000_1, .string x303001_1, .int .i64 x303002_1, .int .u8 x303003_1]) ?_ 1 _ rfl; (with_reducible repeat (first | refine blk_drewN ?_ _ | refine blk_drew ?_ | refine blk_alloc ?_ _)); refine blk_put (cs := #[.string x303000_1, .string x303001_1, .int .i64 x303002_1, .int .u8 x303003_1]) ?_ 0 _ rfl; (with_reducible repeat (first | refine blk_drewN ?_ _ | refine blk_drew ?_ | refine blk_alloc ?_ _)); exact BK302.out) Tryd.underlying23 rfl (by kernel_rfl)) rfl ?_
            exact ⟨by first | rfl | (simp [errW_none, errW_some] <;> rfl) | (simp [*, errW_none, errW_some] <;> rfl), by repeat (first | (with_reducible first | exact HB.out | apply below_alloc | apply pw_below_drewN | apply below_drew1 | refine below_set ?_ GE302.out | refine below_set ?_ GE303.out) | exact HB.out)⟩
        ·
         replace c14 := Bool.eq_false_iff.mpr c14
         subst c14
         have H1 : (if x11_6 = true then (quoinref16_sum.j3 kj9 l0 (wrap64 (x1_1 + 1)) x7_1 x8_1 x9_1 t304 x304000_1 x304001_1 x304002_1 0) else (quoinref16_sum.j3 kj9 l0 x1_1 x7_1 x8_1 x9_1 t304 x304000_1 x304001_1 x304002_1 0)) = some (r1, r2, r3, r4, r5) := by rw [if_neg (show ¬ (false = true) by decide)] at H; exact H
         clear H
         have H := H1
         clear H1
         have HC30 := Aside0.mk H
         clear H
         go_upto_if 41 with (fail)
         go_cut [1] (fun v1 wc => ∃ (kq : Nat) (x1_29 : Int), v1 = .int .i64 x1_29 ∧ Aside0 (quoinref16_sum.j3 kq l0 x1_29 x7_1 x8_1 x9_1 t304 x304000_1 x304001_1 x304002_1 0 = some (r1, r2, r3, r4, r5)) ∧ Aside0 (kq ≤ kj9) ∧ Aside0 (wc.heap[gb302]? = some (.cells #[.string x303000_1, .string x303001_1, .int .i64 x303002_1, .int .u8 x303003_1] 23 (0, 0))) ∧ Aside0 (wc.heap[gb303]? = some (.cells #[.string x304000_1, .string x304001_1, .int .i64 x304002_1, .int .u8 0] 23 (0, 0))) ∧ Aside0 (Below w.heap.size w wc))
         case first =>
          have H := HC30.out
          clear HC30
          by_cases c31 : x11_6 = true
          ·
           subst c31
           have H1 : (quoinref16_sum.j3 kj9 l0 (wrap64 (x1_1 + 1)) x7_1 x8_1 x9_1 t304 x304000_1 x304001_1 x304002_1 0) = some (r1, r2, r3, r4, r5) := by rw [if_pos rfl] at H; exact H
           clear H
           have H := H1
           clear H1
           have H' := Aside0.mk H
           clear H
           go_wp2
           go_meet
           case rel => exact ⟨_, (wrap64 (x1_1 + 1)), (by first | rfl | (simp; done) | (simp [*]; done)), H', ⟨by have := HK1.out; have := HJ6.out; have := HJ9.out; first | omega | exact Nat.le_refl _⟩, ⟨by (with_reducible repeat (first | refine blk_drewN ?_ _ | refine blk_drew ?_ | refine blk_alloc ?_ _)); exact BK302.out⟩, ⟨by (with_reducible repeat (first | refine blk_drewN ?_ _ | refine blk_drew ?_ | refine blk_alloc ?_ _)); exact BK303.out⟩, ⟨by repeat (first | (with_reducible first | exact HB.out | apply below_alloc | apply pw_below_drewN | apply below_drew1 | refine below_set ?_ GE302.out | refine below_set ?_ GE303.out) | exact HB.out)⟩⟩
          ·
           replace c31 := Bool.eq_false_iff.mpr c31
           subst c31
           have H1 : (quoinref16_sum.j3 kj9 l0 x1_1 x7_1 x8_1 x9_1 t304 x304000_1 x304001_1 x304002_1 0) = some (r1, r2, r3, r4, r5) := by rw [if_neg (show ¬ (false = true) by decide)] at H; exact H
           clear H
           have H := H1
           clear H1
           have H' := Aside0.mk H
           clear H
           go_wp2
           go_meet
           case rel => exact ⟨_, (x1_1), (by first | rfl | (simp; done) | (simp [*]; done)), H', ⟨by have := HK1.out; have := HJ6.out; have := HJ9.out; first | omega | exact Nat.le_refl _⟩, ⟨by (with_reducible repeat (first | refine blk_drewN ?_ _ | refine blk_drew ?_ | refine blk_alloc ?_ _)); exact BK302.out⟩, ⟨by (with_reducible repeat (first | refine blk_drewN ?_ _ | refine blk_drew ?_ | refine blk_alloc ?_ _)); exact BK303.out⟩, ⟨by repeat (first | (with_reducible first | exact HB.out | apply below_alloc | apply pw_below_drewN | apply below_drew1 | refine below_set ?_ GE302.out | refine below_set ?_ GE303.out) | exact HB.out)⟩⟩
         case rest =>
          clear HC30
          try clear c1
          try clear c2
          try clear p2
          try clear c3
          try clear c5
          try clear c5b0
          try clear p6
          try clear c8
          try clear c11
          try clear c11b0
          try clear c12
          try clear c14
          try clear c15
          try clear c15b0
          try clear c16
          try clear c19
          try clear c19b0
          try clear c20
          try clear c23
          try clear c23b0
          try clear c24
          try clear c27
          try clear c31
          try clear hcz17_0
          try clear hcz17_1
          try clear hcz17_2
          try clear hcz17_3
          try clear hcz18_0
          try clear hcz18_1
          try clear hcz18_2
          try clear hcz18_3
          try clear hcz21_0
          try clear hcz21_1
          try clear hcz21_2
          try clear hcz21_3
          try clear hcz22_0
          try clear hcz22_1
          try clear hcz22_2
          try clear hcz22_3
          try clear hcz25_0
          try clear hcz25_1
          try clear hcz25_2
          try clear hcz25_3
          try clear hcz26_0
          try clear hcz26_1
          try clear hcz26_2
          try clear hcz26_3
          try clear hcz28_0
          try clear hcz28_1
          try clear hcz28_2
          try clear hcz28_3
          try clear hcz29_0
          try clear hcz29_1
          try clear hcz29_2
          try clear hcz29_3
          try clear hfz17_0
          try clear hfz17_1
          try clear hfz17_2
          try clear hfz17_3
          try clear hfz18_0
          try clear hfz18_1
          try clear hfz18_2
          try clear hfz18_3
          try clear hfz21_0
          try clear hfz21_1
          try clear hfz21_2
          try clear hfz21_3
          try clear hfz22_0
          try clear hfz22_1
          try clear hfz22_2
          try clear hfz22_3
          try clear hfz25_0
          try clear hfz25_1
          try clear hfz25_2
          try clear hfz25_3
          try clear hfz26_0
          try clear hfz26_1
          try clear hfz26_2
          try clear hfz26_3
          try clear hfz28_0
          try clear hfz28_1
          try clear hfz28_2
          try clear hfz28_3
          try clear hfz29_0
          try clear hfz29_1
          try clear hfz29_2
          try clear hfz29_3
          try clear p2
          try clear p6
          obtain ⟨kq, x1_29, rfl, HA, HJ29, BK302, BK303, HB⟩ := hcut
          cases kq with
          | zero => exact absurd HA.out (by simp [quoinref16_sum.j3])
          | succ kj29 =>
           have H := HA.out
           clear HA
           simp only [quoinref16_sum.j3] at H
           replace H := Option.bind_eq_some_iff.mp H
           obtain ⟨t307, A320, H⟩ := H
           replace H : (if t307 = true then (if 0 ≤ x1_29 then (if x1_29 < (l0.length : Int) then (if ((rd_T41 l0 x1_29).f0) = 2 then (quoinref16_sum.j4 kj29 l0 (wrap64 (x1_29 + 1)) x7_1 x8_1 x9_1 t304 t304 x304000_1 x304001_1 x304002_1 0 ((rd_T41 l0 x1_29).f0) ((rd_T41 l0 x1_29).f1) ((rd_T41 l0 x1_29).f2)) else (quoinref16_sum.j4 kj29 l0 (wrap64 (x1_29 + 1)) x7_1 x8_1 x9_1 t304 false x304000_1 x304001_1 x304002_1 0 ((rd_T41 l0 x1_29).f0) ((rd_T41 l0 x1_29).f1) ((rd_T41 l0 x1_29).f2))) else (none)) else (none)) else (some (x304000_1, x304001_1, x304002_1, 0, (-1)))) = some (r1, r2, r3, r4, r5) := H
           have A32 := Aside0.mk A320
           clear A320
           by_cases c33 : t307 = true
           ·
            subst c33
            have H1 : (if 0 ≤ x1_29 then (if x1_29 < (l0.length : Int) then (if ((rd_T41 l0 x1_29).f0) = 2 then (quoinref16_sum.j4 kj29 l0 (wrap64 (x1_29 + 1)) x7_1 x8_1 x9_1 t304 t304 x304000_1 x304001_1 x304002_1 0 ((rd_T41 l0 x1_29).f0) ((rd_T41 l0 x1_29).f1) ((rd_T41 l0 x1_29).f2)) else (quoinref16_sum.j4 kj29 l0 (wrap64 (x1_29 + 1)) x7_1 x8_1 x9_1 t304 false x304000_1 x304001_1 x304002_1 0 ((rd_T41 l0 x1_29).f0) ((rd_T41 l0 x1_29).f1) ((rd_T41 l0 x1_29).f2))) else (none)) else (none)) = some (r1, r2, r3, r4, r5) := by rw [if_pos rfl] at H; exact H
            clear H
            have H := H1
            clear H1
            by_cases c34 : 0 ≤ x1_29
            ·
             rw [if_pos c34] at H
             have c34b0 : decide (0 ≤ x1_29) = true := decide_eq_true c34
             clear c34
             by_cases c35 : x1_29 < (l0.length : Int)
             ·
              rw [if_pos c35] at H
              have c35b0 : decide (x1_29 < (l0.length : Int)) = true := decide_eq_true c35
              clear c35
              have HC36 := Aside0.mk H
              clear H
              go_upto_region 18 with (first | ((with_reducible refine gate_callee (f := 44) rfl ?_); refine goesL_ (some 46) rfl rfl Tryd.func44 (by kernel_rfl) rfl #[.slice A0 l0.length c0, .int .i64 x1_29] rfl (by (try simp only [List.map_toArray, List.map_cons, List.map_nil]); first | done | rfl | (simp only [List.length_drop, List.length_take]; rfl)) ?_; (with_reducible refine (quoinref16_term.calls kj29 _ _ l0 x1_29 true _ ?side1 ?side2 A32.out).mono ?_); (case side1 => repeat (first | exact (Kd.C_below HR0.out HB.out) | (with_reducible refine Kd.C_alloc ?_ _) | (with_reducible refine Kd.C_drewN ?_ _) | (with_reducible refine Kd.C_drew ?_))); (case side2 => exact HC0.out); rintro e w' ⟨rfl, ⟨nd, rfl⟩⟩; refine ⟨_, rfl, ?_⟩; (try (rw [drewN_self wc]; generalize hq_ : World.drewN wc _ = wc; have n0_ : Aside0 (wc.heap[gb302]? = some (.cells #[.string x303000_1, .string x303001_1, .int .i64 x303002_1, .int .u8 x303003_1] 23 (0, 0))) := ⟨by rw [← hq_]; exact (by (with_reducible repeat (first | refine blk_drewN ?_ _ | refine blk_drew ?_ | refine blk_alloc ?_ _)); exact BK302.out)⟩; have n1_ : Aside0 (wc.heap[gb303]? = some (.cells #[.string x304000_1, .string x304001_1, .int .i64 x304002_1, .int .u8 0] 23 (0, 0))) := ⟨by rw [← hq_]; exact (by (with_reducible repeat (first | refine blk_drewN ?_ _ | refine blk_drew ?_ | refine blk_alloc ?_ _)); exact BK303.out)⟩; have n2_ : Aside0 (Below w.heap.size w wc) := ⟨by rw [← hq_]; exact (by repeat (first | (with_reducible first | exact HB.out | apply below_alloc | apply pw_below_drewN | apply below_drew1 | refine below_set ?_ GE302.out | refine below_set ?_ GE303.out) | exact HB.out))⟩; clear BK302 BK303 HB hq_; have BK302 := n0_; have BK303 := n1_; have HB := n2_; clear n0_ n1_ n2_)); have p308 : 0 ≤ (x1_29 : Int) := of_decide_eq_true (by first | (with_reducible assumption) | assumption); have q308 : x1_29 < (l0.length : Int) := of_decide_eq_true (by first | (with_reducible assumption) | assumption); obtain ⟨ad308, e308, hx308_0, hx308_1, hx308_2⟩ := at_T41 HR0.out x1_29 p308 q308; cases e308; replace hx308_0 := (HB.out.cell (World.block_lt_of_cell? w _ hx308_0)).trans hx308_0; replace hx308_1 := (HB.out.cell (World.block_lt_of_cell? w _ hx308_1)).trans hx308_1; replace hx308_2 := (HB.out.cell (World.block_lt_of_cell? w _ hx308_2)).trans hx308_2; replace p308 := eq_true p308; replace q308 := eq_true q308) | ((with_reducible refine gate_dst (N := 12) rfl ?_); refine box_event ?hg (N := 12) ?hd (cs := #[.int .u8 0, .string (⟨#[]⟩ : ByteArray), .int .i64 0]) (t := 41) ?hr ?_; (case hd => rfl); (case hg => rfl); (case hr => first | (go_simp; done) | (go_simp; rfl)); intro gb309 hg w37 hbox hb; have n0_ := Aside0.mk (blk_below (g := gb302) (o := .cells #[.string x303000_1, .string x303001_1, .int .i64 x303002_1, .int .u8 x303003_1] 23 (0, 0)) (by (with_reducible repeat (first | refine blk_drewN ?_ _ | refine blk_drew ?_ | refine blk_alloc ?_ _)); exact BK302.out) hb); have n1_ := Aside0.mk (blk_below (g := gb303) (o := .cells #[.string x304000_1, .string x304001_1, .int .i64 x304002_1, .int .u8 0] 23 (0, 0)) (by (with_reducible repeat (first | refine blk_drewN ?_ _ | refine blk_drew ?_ | refine blk_alloc ?_ _)); exact BK303.out) hb); have n2_ := Aside0.mk (below_step (by repeat (first | (with_reducible first | exact HB.out | apply below_alloc | apply pw_below_drewN | apply below_drew1 | refine below_set ?_ GE302.out | refine below_set ?_ GE303.out) | exact HB.out)) hb); have n3_ := Aside0.mk (hbox); have n4_ := Aside0.mk ((by rw [hg]; exact (below_size (by repeat (first | (with_reducible first | exact HB.out | apply below_alloc | apply pw_below_drewN | apply below_drew1 | refine below_set ?_ GE302.out | refine below_set ?_ GE303.out) | exact HB.out))) : w.heap.size ≤ gb309)); have n5_ := Aside0.mk ((by rw [hg]; exact (below_size (by repeat (first | (with_reducible first | exact HB.out | apply below_alloc | apply pw_below_drewN | apply below_drew1 | refine below_set ?_ GE302.out | refine below_set ?_ GE303.out) | exact HB.out))) : w.heap.size ≤ gb309)); have n6_ := Aside0.mk ((by rw [hg]; exact Nat.ne_of_lt (blk_lt (g := gb302) (o := .cells #[.string x303000_1, .string x303001_1, .int .i64 x303002_1, .int .u8 x303003_1] 23 (0, 0)) (by (with_reducible repeat (first | refine blk_drewN ?_ _ | refine blk_drew ?_ | refine blk_alloc ?_ _)); exact BK302.out)) : gb302 ≠ gb309)); have n7_ := Aside0.mk ((by rw [hg]; exact Nat.ne_of_gt (blk_lt (g := gb302) (o := .cells #[.string x303000_1, .string x303001_1, .int .i64 x303002_1, .int .u8 x303003_1] 23 (0, 0)) (by (with_reducible repeat (first | refine blk_drewN ?_ _ | refine blk_drew ?_ | refine blk_alloc ?_ _)); exact BK302.out)) : gb309 ≠ gb302)); have n8_ := Aside0.mk ((by rw [hg]; exact Nat.ne_of_lt (blk_lt (g := gb303) (o := .cells #[.string x304000_1, .string x304001_1, .int .i64 x304002_1, .int .u8 0] 23 (0, 0)) (by (with_reducible repeat (first | refine blk_drewN ?_ _ | refine blk_drew ?_ | refine blk_alloc ?_ _)); exact BK303.out)) : gb303 ≠ gb309)); have n9_ := Aside0.mk ((by rw [hg]; exact Nat.ne_of_gt (blk_lt (g := gb303) (o := .cells #[.string x304000_1, .string x304001_1, .int .i64 x304002_1, .int .u8 0] 23 (0, 0)) (by (with_reducible repeat (first | refine blk_drewN ?_ _ | refine blk_drew ?_ | refine blk_alloc ?_ _)); exact BK303.out)) : gb309 ≠ gb303)); clear BK302; clear BK303; clear HB; have BK302 := n0_; have BK303 := n1_; have HB := n2_; have BK309 := n3_; have GW309 := n4_; have GE309 := n5_; have NB302_309 := n6_; have NB309_302 := n7_; have NB303_309 := n8_; have NB309_303 := n9_; clear n0_ n1_ n2_ n3_ n4_ n5_ n6_ n7_ n8_ n9_; clear hb hbox hg; have hnb38 := NB309_302.out; have hnc38 := NB302_309.out; have hnb39 := NB309_303.out; have hnc39 := NB303_309.out; have hcz40_0 : w37.cell? ⟨gb309, 0, none⟩ = some (.int .u8 0) := (blk_cell BK309.out 0).trans rfl; have hcz40_1 : w37.cell? ⟨gb309, 1, none⟩ = some (.string (⟨#[]⟩ : ByteArray)) := (blk_cell BK309.out 1).trans rfl; have hcz40_2 : w37.cell? ⟨gb309, 2, none⟩ = some (.int .i64 0) := (blk_cell BK309.out 2).trans rfl; have hfz40_0 := blk_frozen BK309.out 0; have hfz40_1 := blk_frozen BK309.out 1; have hfz40_2 := blk_frozen BK309.out 2))
              (try simp only [Act.put, List.setIfInBounds_toArray, List.set_cons_zero, List.set_cons_succ])
              go_cut [60] (fun v60 wc => ∃ (kq : Nat) (x60_35 : Bool), v60 = .bool x60_35 ∧ Aside0 (quoinref16_sum.j4 kq l0 (wrap64 (x1_29 + 1)) x7_1 x8_1 x9_1 t304 x60_35 x304000_1 x304001_1 x304002_1 0 ((rd_T41 l0 x1_29).f0) ((rd_T41 l0 x1_29).f1) ((rd_T41 l0 x1_29).f2) = some (r1, r2, r3, r4, r5)) ∧ Aside0 (kq ≤ kj29) ∧ Aside0 (wc.heap[gb302]? = some (.cells #[.string x303000_1, .string x303001_1, .int .i64 x303002_1, .int .u8 x303003_1] 23 (0, 0))) ∧ Aside0 (wc.heap[gb303]? = some (.cells #[.string x304000_1, .string x304001_1, .int .i64 x304002_1, .int .u8 0] 23 (0, 0))) ∧ Aside0 (wc.heap[gb309]? = some (.cells #[.int .u8 ((rd_T41 l0 x1_29).f0), .string ((rd_T41 l0 x1_29).f1), .int .i64 ((rd_T41 l0 x1_29).f2)] 41 (0, 0))) ∧ Aside0 (Below w.heap.size w wc))
              case first =>
               have H := HC36.out
               clear HC36
               by_cases c41 : ((rd_T41 l0 x1_29).f0) = 2
               ·
                rw [if_pos c41] at H
                have c41b0 : (((rd_T41 l0 x1_29).f0) == 2) = true := beq_iff_eq.mpr c41
                have c41b1 : (((rd_T41 l0 x1_29).f0) != 2) = false := bne_eq_false_iff_eq.mpr c41
                clear c41
                (first | rw [c41b0] | (simp only [i64_w, i32_w]; rw [c41b0]) | skip)
                have H' := Aside0.mk H
                clear H
                have hnb42 := NB309_302.out
                have hnc42 := NB302_309.out
                have hnb43 := NB309_303.out
                have hnc43 := NB303_309.out
                have hcz44_0 : w37.cell? ⟨gb309, 0, none⟩ = some (.int .u8 0) := (blk_cell BK309.out 0).trans rfl
                have hcz44_1 : w37.cell? ⟨gb309, 1, none⟩ = some (.string (⟨#[]⟩ : ByteArray)) := (blk_cell BK309.out 1).trans rfl
                have hcz44_2 : w37.cell? ⟨gb309, 2, none⟩ = some (.int .i64 0) := (blk_cell BK309.out 2).trans rfl
                have hfz44_0 := blk_frozen BK309.out 0
                have hfz44_1 := blk_frozen BK309.out 1
                have hfz44_2 := blk_frozen BK309.out 2
                go_wp2
                go_meet
                case rel => exact ⟨_, (t304), (by first | rfl | (simp; done) | (simp [*]; done)), H', ⟨by have := HK1.out; have := HJ6.out; have := HJ9.out; have := HJ29.out; first | omega | exact Nat.le_refl _⟩, ⟨by (with_reducible repeat (first | refine blk_drewN ?_ _ | refine blk_drew ?_ | refine blk_alloc ?_ _)); refine blk_far ?_ NB302_309.out _; (with_reducible repeat (first | refine blk_drewN ?_ _ | refine blk_drew ?_ | refine blk_alloc ?_ _)); refine blk_far ?_ NB302_309.out _; (with_reducible repeat (first | refine blk_drewN ?_ _ | refine blk_drew ?_ | refine blk_alloc ?_ _)); refine blk_far ?_ NB302_309.out _; (with_reducible repeat (first | refine blk_drewN ?_ _ | refine blk_drew ?_ | refine blk_alloc ?_ _)); exact BK302.out⟩, ⟨by (with_reducible repeat (first | refine blk_drewN ?_ _ | refine blk_drew ?_ | refine blk_alloc ?_ _)); refine blk_far ?_ NB303_309.out _; (with_reducible repeat (first | refine blk_drewN ?_ _ | refine blk_drew ?_ | refine blk_alloc ?_ _)); refine blk_far ?_ NB303_309.out _; (with_reducible repeat (first | refine blk_drewN ?_ _ | refine blk_drew ?_ | refine blk_alloc ?_ _)); refine blk_far ?_ NB303_309.out _; (with_reducible repeat (first | refine blk_drewN ?_ _ | refine blk_drew ?_ | refine blk_alloc ?_ _)); exact BK303.out⟩, ⟨by (with_reducible repeat (first | refine blk_drewN ?_ _ | refine blk_drew ?_ | refine blk_alloc ?_ _)); refine blk_put (cs := #[.int .u8 ((rd_T41 l0 x1_29).f0), .string ((rd_T41 l0 x1_29).f1), .int .i64 0]) ?_ 2 _ rfl; (with_reducible repeat (first | refine blk_drewN ?_ _ | refine blk_drew ?_ | refine blk_alloc ?_ _)); refine blk_put (cs := #[.int .u8 ((rd_T41 l0 x1_29).f0), .string (⟨#[]⟩ : ByteArray), .int .i64 0]) ?_ 1 _ rfl; (with_reducible repeat (first | refine blk_drewN ?_ _ | refine blk_drew ?_ | refine blk_alloc ?_ _)); refine blk_put (cs := #[.int .u8 0, .string (⟨#[]⟩ : ByteArray), .int .i64 0]) ?_ 0 _ rfl; (with_reducible repeat (first | refine blk_drewN ?_ _ | refine blk_drew ?_ | refine blk_alloc ?_ _)); exact BK309.out⟩, ⟨by repeat (first | (with_reducible first | exact HB.out | apply below_alloc | apply pw_below_drewN | apply below_drew1 | refine below_set ?_ GE302.out | refine below_set ?_ GE303.out | refine below_set ?_ GE309.out) | exact HB.out)⟩⟩
               ·
                rw [if_neg c41] at H
                have c41b0 : (((rd_T41 l0 x1_29).f0) == 2) = false := beq_eq_false_iff_ne.mpr c41
                have c41b1 : (((rd_T41 l0 x1_29).f0) != 2) = true := bne_iff_ne.mpr c41
                (first | rw [c41b0] | (simp only [i64_w, i32_w]; rw [c41b0]) | skip)
                have H' := Aside0.mk H
                clear H
                have hnb45 := NB309_302.out
                have hnc45 := NB302_309.out
                have hnb46 := NB309_303.out
                have hnc46 := NB303_309.out
                have hcz47_0 : w37.cell? ⟨gb309, 0, none⟩ = some (.int .u8 0) := (blk_cell BK309.out 0).trans rfl
                have hcz47_1 : w37.cell? ⟨gb309, 1, none⟩ = some (.string (⟨#[]⟩ : ByteArray)) := (blk_cell BK309.out 1).trans rfl
                have hcz47_2 : w37.cell? ⟨gb309, 2, none⟩ = some (.int .i64 0) := (blk_cell BK309.out 2).trans rfl
                have hfz47_0 := blk_frozen BK309.out 0
                have hfz47_1 := blk_frozen BK309.out 1
                have hfz47_2 := blk_frozen BK309.out 2
                go_wp2
                go_meet
                case rel => exact ⟨_, (false), (by first | rfl | (simp; done) | (simp [*]; done)), H', ⟨by have := HK1.out; have := HJ6.out; have := HJ9.out; have := HJ29.out; first | omega | exact Nat.le_refl _⟩, ⟨by (with_reducible repeat (first | refine blk_drewN ?_ _ | refine blk_drew ?_ | refine blk_alloc ?_ _)); refine blk_far ?_ NB302_309.out _; (with_reducible repeat (first | refine blk_drewN ?_ _ | refine blk_drew ?_ | refine blk_alloc ?_ _)); refine blk_far ?_ NB302_309.out _; (with_reducible repeat (first | refine blk_drewN ?_ _ | refine blk_drew ?_ | refine blk_alloc ?_ _)); refine blk_far ?_ NB302_309.out _; (with_reducible repeat (first | refine blk_drewN ?_ _ | refine blk_drew ?_ | refine blk_alloc ?_ _)); exact BK302.out⟩, ⟨by (with_reducible repeat (first | refine blk_drewN ?_ _ | refine blk_drew ?_ | refine blk_alloc ?_ _)); refine blk_far ?_ NB303_309.out _; (with_reducible repeat (first | refine blk_drewN ?_ _ | refine blk_drew ?_ | refine blk_alloc ?_ _)); refine blk_far ?_ NB303_309.out _; (with_reducible repeat (first | refine blk_drewN ?_ _ | refine blk_drew ?_ | refine blk_alloc ?_ _)); refine blk_far ?_ NB303_309.out _; (with_reducible repeat (first | refine blk_drewN ?_ _ | refine blk_drew ?_ | refine blk_alloc ?_ _)); exact BK303.out⟩, ⟨by (with_reducible repeat (first | refine blk_drewN ?_ _ | refine blk_drew ?_ | refine blk_alloc ?_ _)); refine blk_put (cs := #[.int .u8 ((rd_T41 l0 x1_29).f0), .string ((rd_T41 l0 x1_29).f1), .int .i64 0]) ?_ 2 _ rfl; (with_reducible repeat (first | refine blk_drewN ?_ _ | refine blk_drew ?_ | refine blk_alloc ?_ _)); refine blk_put (cs := #[.int .u8 ((rd_T41 l0 x1_29).f0), .string (⟨#[]⟩ : ByteArray), .int .i64 0]) ?_ 1 _ rfl; (with_reducible repeat (first | refine blk_drewN ?_ _ | refine blk_drew ?_ | refine blk_alloc ?_ _)); refine blk_put (cs := #[.int .u8 0, .string (⟨#[]⟩ : ByteArray), .int .i64 0]) ?_ 0 _ rfl; (with_reducible repeat (first | refine blk_drewN ?_ _ | refine blk_drew ?_ | refine blk_alloc ?_ _)); exact BK309.out⟩, ⟨by repeat (first | (with_reducible first | exact HB.out | apply below_alloc | apply pw_below_drewN | apply below_drew1 | refine below_set ?_ GE302.out | refine below_set ?_ GE303.out | refine below_set ?_ GE309.out) | exact HB.out)⟩⟩
              case rest =>
               clear HC36
               try clear c1
               try clear c2
               try clear p2
               try clear c3
               try clear p3
               try clear q3
               try clear hx3
               try clear c4
               try clear c5
               try clear c5b0
               try clear p6
               try clear c8
               try clear c11
               try clear c11b0
               try clear c12
               try clear c14
               try clear c15
               try clear c15b0
               try clear c16
               try clear c19
               try clear c19b0
               try clear c20
               try clear c23
               try clear c23b0
               try clear c24
               try clear c27
               try clear p30
               try clear q30
               try clear hx30
               try clear c31
               try clear c32
               try clear c33
               try clear c34
               try clear c34b0
               try clear c35
               try clear c35b0
               try clear c38
               try clear c39
               try clear c41
               try clear c41b0
               try clear c41b1
               try clear c42
               try clear c43
               try clear c44
               try clear c45
               try clear c46
               try clear hcz17_0
               try clear hcz17_1
               try clear hcz17_2
               try clear hcz17_3
               try clear hcz18_0
               try clear hcz18_1
               try clear hcz18_2
               try clear hcz18_3
               try clear hcz21_0
               try clear hcz21_1
               try clear hcz21_2
               try clear hcz21_3
               try clear hcz22_0
               try clear hcz22_1
               try clear hcz22_2
               try clear hcz22_3
               try clear hcz25_0
               try clear hcz25_1
               try clear hcz25_2
               try clear hcz25_3
               try clear hcz26_0
               try clear hcz26_1
               try clear hcz26_2
               try clear hcz26_3
               try clear hcz28_0
               try clear hcz28_1
               try clear hcz28_2
               try clear hcz28_3
               try clear hcz29_0
               try clear hcz29_1
               try clear hcz29_2
               try clear hcz29_3
               try clear hcz40_0
               try clear hcz40_1
               try clear hcz40_2
               try clear hcz44_0
               try clear hcz44_1
               try clear hcz44_2
               try clear hcz47_0
               try clear hcz47_1
               try clear hcz47_2
               try clear hfz17_0
               try clear hfz17_1
               try clear hfz17_2
               try clear hfz17_3
               try clear hfz18_0
               try clear hfz18_1
               try clear hfz18_2
               try clear hfz18_3
               try clear hfz21_0
               try clear hfz21_1
               try clear hfz21_2
               try clear hfz21_3
               try clear hfz22_0
               try clear hfz22_1
               try clear hfz22_2
               try clear hfz22_3
               try clear hfz25_0
               try clear hfz25_1
               try clear hfz25_2
               try clear hfz25_3
               try clear hfz26_0
               try clear hfz26_1
               try clear hfz26_2
               try clear hfz26_3
               try clear hfz28_0
               try clear hfz28_1
               try clear hfz28_2
               try clear hfz28_3
               try clear hfz29_0
               try clear hfz29_1
               try clear hfz29_2
               try clear hfz29_3
               try clear hfz40_0
               try clear hfz40_1
               try clear hfz40_2
               try clear hfz44_0
               try clear hfz44_1
               try clear hfz44_2
               try clear hfz47_0
               try clear hfz47_1
               try clear hfz47_2
               try clear hx308_0
               try clear hx308_1
               try clear hx308_2
               try clear p2
               try clear p308
               try clear p6
               try clear q308
               obtain ⟨kq, x60_35, rfl, HA, HJ35, BK302, BK303, BK309, HB⟩ := hcut
               cases kq with
               | zero => exact absurd HA.out (by simp [quoinref16_sum.j4])
               | succ kj35 =>
                have H := HA.out
                clear HA
                simp only [quoinref16_sum.j4] at H
                by_cases c48 : x60_35 = true
                ·
                 subst c48
                 have H1 : (quoinref16_sum.l0 kj35 l0 (wrap64 (x1_29 + 1)) x7_1 x8_1 (wrap64 (x9_1 + 1)) x304000_1 x304001_1 (wrap64 (x304002_1 - ((rd_T41 l0 x1_29).f2))) 0) = some (r1, r2, r3, r4, r5) := by rw [if_pos rfl] at H; exact H
                 clear H
                 have H := H1
                 clear H1
                 have H' := Aside0.mk H
                 clear H
                 have hnb49 := NB303_302.out
                 have hnc49 := NB302_303.out
                 have hnb50 := NB303_309.out
                 have hnc50 := NB309_303.out
                 have hcz51_0 : wc.cell? ⟨gb303, 0, none⟩ = some (.string x304000_1) := (blk_cell BK303.out 0).trans rfl
                 have hcz51_1 : wc.cell? ⟨gb303, 1, none⟩ = some (.string x304001_1) := (blk_cell BK303.out 1).trans rfl
                 have hcz51_2 : wc.cell? ⟨gb303, 2, none⟩ = some (.int .i64 x304002_1) := (blk_cell BK303.out 2).trans rfl
                 have hcz51_3 : wc.cell? ⟨gb303, 3, none⟩ = some (.int .u8 0) := (blk_cell BK303.out 3).trans rfl
                 have hfz51_0 := blk_frozen BK303.out 0
                 have hfz51_1 := blk_frozen BK303.out 1
                 have hfz51_2 := blk_frozen BK303.out 2
                 have hfz51_3 := blk_frozen BK303.out 3
                 have hnb52 := NB309_302.out
                 have hnc52 := NB302_309.out
                 have hcz53_0 : wc.cell? ⟨gb309, 0, none⟩ = some (.int .u8 ((rd_T41 l0 x1_29).f0)) := (blk_cell BK309.out 0).trans rfl
                 have hcz53_1 : wc.cell? ⟨gb309, 1, none⟩ = some (.string ((rd_T41 l0 x1_29).f1)) := (blk_cell BK309.out 1).trans rfl
                 have hcz53_2 : wc.cell? ⟨gb309, 2, none⟩ = some (.int .i64 ((rd_T41 l0 x1_29).f2)) := (blk_cell BK309.out 2).trans rfl
                 have hfz53_0 := blk_frozen BK309.out 0
                 have hfz53_1 := blk_frozen BK309.out 1
                 have hfz53_2 := blk_frozen BK309.out 2
                 go_wp2
                 go_roundg kj35
                 case measure => have := HK1.out; have := HJ6.out; have := HJ9.out; have := HJ29.out; have := HJ35.out; omega
                 case rel => exact ⟨((wrap64 (x1_29 + 1))), (x7_1), (x8_1), (wrap64 (x9_1 + 1)), (x303000_1), (x303001_1), (x303002_1), (x303003_1), (x304000_1), (x304001_1), (wrap64 (x304002_1 - ((rd_T41 l0 x1_29).f2))), (by first | rfl | (simp; done) | (simp [*]; done)), (by first | rfl | (simp; done) | (simp [*]; done)), (by first | rfl | (simp; done) | (simp [*]; done)), (by first | rfl | (simp; done) | (simp [*]; done)), H', ⟨by have := HK1.out; have := HJ6.out; have := HJ9.out; have := HJ29.out; have := HJ35.out; omega⟩, ⟨by (with_reducible repeat (first | refine blk_drewN ?_ _ | refine blk_drew ?_ | refine blk_alloc ?_ _)); refine blk_far ?_ NB302_303.out _; (with_reducible repeat (first | refine blk_drewN ?_ _ | refine blk_drew ?_ | refine blk_alloc ?_ _)); exact BK302.out⟩, ⟨by (with_reducible repeat (first | refine blk_drewN ?_ _ | refine blk_drew ?_ | refine blk_alloc ?_ _)); refine blk_put (cs := #[.string x304000_1, .string x304001_1, .int .i64 x304002_1, .int .u8 0]) ?_ 2 _ rfl; (with_reducible repeat (first | refine blk_drewN ?_ _ | refine blk_drew ?_ | refine blk_alloc ?_ _)); exact BK303.out⟩, ⟨by repeat (first | (with_reducible first | exact HB.out | apply below_alloc | apply pw_below_drewN | apply below_drew1 | refine below_set ?_ GE302.out | refine below_set ?_ GE303.out | refine below_set ?_ GE309.out) | exact HB.out)⟩⟩
                ·
                 replace c48 := Bool.eq_false_iff.mpr c48
                 subst c48
                 have H1 : (if ((rd_T41 l0 x1_29).f0) = 2 then (quoinref16_sum.l0 kj35 l0 (wrap64 (x1_29 + 1)) x7_1 x8_1 (wrap64 (x9_1 + 1)) x304000_1 x304001_1 (wrap64 (x304002_1 + ((rd_T41 l0 x1_29).f2))) 0) else (if t304 = true then (quoinref16_sum.l0 kj35 l0 (wrap64 (x1_29 + 1)) x7_1 (wrap64 (x8_1 + 1)) (wrap64 (x9_1 + 1)) x304000_1 ((rd_T41 l0 x1_29).f1) x304002_1 0) else (quoinref16_sum.l0 kj35 l0 (wrap64 (x1_29 + 1)) (wrap64 (x7_1 + 1)) x8_1 (wrap64 (x9_1 + 1)) ((rd_T41 l0 x1_29).f1) x304001_1 x304002_1 0))) = some (r1, r2, r3, r4, r5) := by rw [if_neg (show ¬ (false = true) by decide)] at H; exact H
                 clear H
                 have H := H1
                 clear H1
                 by_cases c54 : ((rd_T41 l0 x1_29).f0) = 2
                 ·
                  rw [if_pos c54] at H
                  have c54b0 : (((rd_T41 l0 x1_29).f0) == 2) = true := beq_iff_eq.mpr c54
                  have c54b1 : (((rd_T41 l0 x1_29).f0) != 2) = false := bne_eq_false_iff_eq.mpr c54
                  clear c54
                  have H' := Aside0.mk H
                  clear H
                  have hnb55 := NB309_302.out
                  have hnc55 := NB302_309.out
                  have hnb56 := NB309_303.out
                  have hnc56 := NB303_309.out
                  have hcz57_0 : wc.cell? ⟨gb309, 0, none⟩ = some (.int .u8 ((rd_T41 l0 x1_29).f0)) := (blk_cell BK309.out 0).trans rfl
                  have hcz57_1 : wc.cell? ⟨gb309, 1, none⟩ = some (.string ((rd_T41 l0 x1_29).f1)) := (blk_cell BK309.out 1).trans rfl
                  have hcz57_2 : wc.cell? ⟨gb309, 2, none⟩ = some (.int .i64 ((rd_T41 l0 x1_29).f2)) := (blk_cell BK309.out 2).trans rfl
                  have hfz57_0 := blk_frozen BK309.out 0
                  have hfz57_1 := blk_frozen BK309.out 1
                  have hfz57_2 := blk_frozen BK309.out 2
                  have hnb58 := NB303_302.out
                  have hnc58 := NB302_303.out
                  have hcz59_0 : wc.cell? ⟨gb303, 0, none⟩ = some (.string x304000_1) := (blk_cell BK303.out 0).trans rfl
                  have hcz59_1 : wc.cell? ⟨gb303, 1, none⟩ = some (.string x304001_1) := (blk_cell BK303.out 1).trans rfl
                  have hcz59_2 : wc.cell? ⟨gb303, 2, none⟩ = some (.int .i64 x304002_1) := (blk_cell BK303.out 2).trans rfl
                  have hcz59_3 : wc.cell? ⟨gb303, 3, none⟩ = some (.int .u8 0) := (blk_cell BK303.out 3).trans rfl
                  have hfz59_0 := blk_frozen BK303.out 0
                  have hfz59_1 := blk_frozen BK303.out 1
                  have hfz59_2 := blk_frozen BK303.out 2
                  have hfz59_3 := blk_frozen BK303.out 3
                  go_wp2
                  go_roundg kj35
                  case measure => have := HK1.out; have := HJ6.out; have := HJ9.out; have := HJ29.out; have := HJ35.out; omega
                  case rel => exact ⟨((wrap64 (x1_29 + 1))), (x7_1), (x8_1), (wrap64 (x9_1 + 1)), (x303000_1), (x303001_1), (x303002_1), (x303003_1), (x304000_1), (x304001_1), (wrap64 (x304002_1 + ((rd_T41 l0 x1_29).f2))), (by first | rfl | (simp; done) | (simp [*]; done)), (by first | rfl | (simp; done) | (simp [*]; done)), (by first | rfl | (simp; done) | (simp [*]; done)), (by first | rfl | (simp; done) | (simp [*]; done)), H', ⟨by have := HK1.out; have := HJ6.out; have := HJ9.out; have := HJ29.out; have := HJ35.out; omega⟩, ⟨by (with_reducible repeat (first | refine blk_drewN ?_ _ | refine blk_drew ?_ | refine blk_alloc ?_ _)); refine blk_far ?_ NB302_303.out _; (with_reducible repeat (first | refine blk_drewN ?_ _ | refine blk_drew ?_ | refine blk_alloc ?_ _)); exact BK302.out⟩, ⟨by (with_reducible repeat (first | refine blk_drewN ?_ _ | refine blk_drew ?_ | refine blk_alloc ?_ _)); refine blk_put (cs := #[.string x304000_1, .string x304001_1, .int .i64 x304002_1, .int .u8 0]) ?_ 2 _ rfl; (with_reducible repeat (first | refine blk_drewN ?_ _ | refine blk_drew ?_ | refine blk_alloc ?_ _)); exact BK303.out⟩, ⟨by repeat (first | (with_reducible first | exact HB.out | apply below_alloc | apply pw_below_drewN | apply below_drew1 | refine below_set ?_ GE302.out | refine below_set ?_ GE303.out | refine below_set ?_ GE309.out) | exact HB.out)⟩⟩
                 ·
                  rw [if_neg c54] at H
                  have c54b0 : (((rd_T41 l0 x1_29).f0) == 2) = false := beq_eq_false_iff_ne.mpr c54
                  have c54b1 : (((rd_T41 l0 x1_29).f0) != 2) = true := bne_iff_ne.mpr c54
                  by_cases c60 : t304 = true
                  ·
                   subst c60
                   have H1 : (quoinref16_sum.l0 kj35 l0 (wrap64 (x1_29 + 1)) x7_1 (wrap64 (x8_1 + 1)) (wrap64 (x9_1 + 1)) x304000_1 ((rd_T41 l0 x1_29).f1) x304002_1 0) = some (r1, r2, r3, r4, r5) := by rw [if_pos rfl] at H; exact H
                   clear H
                   have H := H1
                   clear H1
                   have H' := Aside0.mk H
                   clear H
                   have hnb61 := NB309_302.out
                   have hnc61 := NB302_309.out
                   have hnb62 := NB309_303.out
                   have hnc62 := NB303_309.out
                   have hcz63_0 : wc.cell? ⟨gb309, 0, none⟩ = some (.int .u8 ((rd_T41 l0 x1_29).f0)) := (blk_cell BK309.out 0).trans rfl
                   have hcz63_1 : wc.cell? ⟨gb309, 1, none⟩ = some (.string ((rd_T41 l0 x1_29).f1)) := (blk_cell BK309.out 1).trans rfl
                   have hcz63_2 : wc.cell? ⟨gb309, 2, none⟩ = some (.int .i64 ((rd_T41 l0 x1_29).f2)) := (blk_cell BK309.out 2).trans rfl
                   have hfz63_0 := blk_frozen BK309.out 0
                   have hfz63_1 := blk_frozen BK309.out 1
                   have hfz63_2 := blk_frozen BK309.out 2
                   have hnb64 := NB303_302.out
                   have hnc64 := NB302_303.out
                   have hcz65_0 : wc.cell? ⟨gb303, 0, none⟩ = some (.string x304000_1) := (blk_cell BK303.out 0).trans rfl
                   have hcz65_1 : wc.cell? ⟨gb303, 1, none⟩ = some (.string x304001_1) := (blk_cell BK303.out 1).trans rfl
                   have hcz65_2 : wc.cell? ⟨gb303, 2, none⟩ = some (.int .i64 x304002_1) := (blk_cell BK303.out 2).trans rfl
                   have hcz65_3 : wc.cell? ⟨gb303, 3, none⟩ = some (.int .u8 0) := (blk_cell BK303.out 3).trans rfl
                   have hfz65_0 := blk_frozen BK303.out 0
                   have hfz65_1 := blk_frozen BK303.out 1
                   have hfz65_2 := blk_frozen BK303.out 2
                   have hfz65_3 := blk_frozen BK303.out 3
                   go_wp2
                   go_roundg kj35
                   case measure => have := HK1.out; have := HJ6.out; have := HJ9.out; have := HJ29.out; have := HJ35.out; omega
                   case rel => exact ⟨((wrap64 (x1_29 + 1))), (x7_1), (wrap64 (x8_1 + 1)), (wrap64 (x9_1 + 1)), (x303000_1), (x303001_1), (x303002_1), (x303003_1), (x304000_1), (((rd_T41 l0 x1_29).f1)), (x304002_1), (by first | rfl | (simp; done) | (simp [*]; done)), (by first | rfl | (simp; done) | (simp [*]; done)), (by first | rfl | (simp; done) | (simp [*]; done)), (by first | rfl | (simp; done) | (simp [*]; done)), H', ⟨by have := HK1.out; have := HJ6.out; have := HJ9.out; have := HJ29.out; have := HJ35.out; omega⟩, ⟨by (with_reducible repeat (first | refine blk_drewN ?_ _ | refine blk_drew ?_ | refine blk_alloc ?_ _)); refine blk_far ?_ NB302_303.out _; (with_reducible repeat (first | refine blk_drewN ?_ _ | refine blk_drew ?_ | refine blk_alloc ?_ _)); exact BK302.out⟩, ⟨by (with_reducible repeat (first | refine blk_drewN ?_ _ | refine blk_drew ?_ | refine blk_alloc ?_ _)); refine blk_put (cs := #[.string x304000_1, .string x304001_1, .int .i64 x304002_1, .int .u8 0]) ?_ 1 _ rfl; (with_reducible repeat (first | refine blk_drewN ?_ _ | refine blk_drew ?_ | refine blk_alloc ?_ _)); exact BK303.out⟩, ⟨by repeat (first | (with_reducible first | exact HB.out | apply below_alloc | apply pw_below_drewN | apply below_drew1 | refine below_set ?_ GE302.out | refine below_set ?_ GE303.out | refine below_set ?_ GE309.out) | exact HB.out)⟩⟩
                  ·
                   replace c60 := Bool.eq_false_iff.mpr c60
                   subst c60
                   have H1 : (quoinref16_sum.l0 kj35 l0 (wrap64 (x1_29 + 1)) (wrap64 (x7_1 + 1)) x8_1 (wrap64 (x9_1 + 1)) ((rd_T41 l0 x1_29).f1) x304001_1 x304002_1 0) = some (r1, r2, r3, r4, r5) := by rw [if_neg (show ¬ (false = true) by decide)] at H; exact H
                   clear H
                   have H := H1
                   clear H1
                   have H' := Aside0.mk H
                   clear H
                   have hnb66 := NB309_302.out
                   have hnc66 := NB302_309.out
                   have hnb67 := NB309_303.out
                   have hnc67 := NB303_309.out
                   have hcz68_0 : wc.cell? ⟨gb309, 0, none⟩ = some (.int .u8 ((rd_T41 l0 x1_29).f0)) := (blk_cell BK309.out 0).trans rfl
                   have hcz68_1 : wc.cell? ⟨gb309, 1, none⟩ = some (.string ((rd_T41 l0 x1_29).f1)) := (blk_cell BK309.out 1).trans rfl
                   have hcz68_2 : wc.cell? ⟨gb309, 2, none⟩ = some (.int .i64 ((rd_T41 l0 x1_29).f2)) := (blk_cell BK309.out 2).trans rfl
                   have hfz68_0 := blk_frozen BK309.out 0
                   have hfz68_1 := blk_frozen BK309.out 1
                   have hfz68_2 := blk_frozen BK309.out 2
                   have hnb69 := NB303_302.out
                   have hnc69 := NB302_303.out
                   have hcz70_0 : wc.cell? ⟨gb303, 0, none⟩ = some (.string x304000_1) := (blk_cell BK303.out 0).trans rfl
                   have hcz70_1 : wc.cell? ⟨gb303, 1, none⟩ = some (.string x304001_1) := (blk_cell BK303.out 1).trans rfl
                   have hcz70_2 : wc.cell? ⟨gb303, 2, none⟩ = some (.int .i64 x304002_1) := (blk_cell BK303.out 2).trans rfl
                   have hcz70_3 : wc.cell? ⟨gb303, 3, none⟩ = some (.int .u8 0) := (blk_cell BK303.out 3).trans rfl
                   have hfz70_0 := blk_frozen BK303.out 0
                   have hfz70_1 := blk_frozen BK303.out 1
                   have hfz70_2 := blk_frozen BK303.out 2
                   have hfz70_3 := blk_frozen BK303.out 3
                   go_wp2
                   go_roundg kj35
                   case measure => have := HK1.out; have := HJ6.out; have := HJ9.out; have := HJ29.out; have := HJ35.out; omega
                   case rel => exact ⟨((wrap64 (x1_29 + 1))), (wrap64 (x7_1 + 1)), (x8_1), (wrap64 (x9_1 + 1)), (x303000_1), (x303001_1), (x303002_1), (x303003_1), (((rd_T41 l0 x1_29).f1)), (x304001_1), (x304002_1), (by first | rfl | (simp; done) | (simp [*]; done)), (by first | rfl | (simp; done) | (simp [*]; done)), (by first | rfl | (simp; done) | (simp [*]; done)), (by first | rfl | (simp; done) | (simp [*]; done)), H', ⟨by have := HK1.out; have := HJ6.out; have := HJ9.out; have := HJ29.out; have := HJ35.out; omega⟩, ⟨by (with_reducible repeat (first | refine blk_drewN ?_ _ | refine blk_drew ?_ | refine blk_alloc ?_ _)); refine blk_far ?_ NB302_303.out _; (with_reducible repeat (first | refine blk_drewN ?_ _ | refine blk_drew ?_ | refine blk_alloc ?_ _)); exact BK302.out⟩, ⟨by (with_reducible repeat (first | refine blk_drewN ?_ _ | refine blk_drew ?_ | refine blk_alloc ?_ _)); refine blk_put (cs := #[.string x304000_1, .string x304001_1, .int .i64 x304002_1, .int .u8 0]) ?_ 0 _ rfl; (with_reducible repeat (first | refine blk_drewN ?_ _ | refine blk_drew ?_ | refine blk_alloc ?_ _)); exact BK303.out⟩, ⟨by repeat (first | (with_reducible first | exact HB.out | apply below_alloc | apply pw_below_drewN | apply below_drew1 | refine below_set ?_ GE302.out | refine below_set ?_ GE303.out | refine below_set ?_ GE309.out) | exact HB.out)⟩⟩
             ·
              rw [if_neg c35] at H
              exact absurd H (by simp)
            ·
             rw [if_neg c34] at H
             exact absurd H (by simp)
           ·
            replace c33 := Bool.eq_false_iff.mpr c33
            subst c33
            have H1 : (some (x304000_1, x304001_1, x304002_1, 0, (-1))) = some (r1, r2, r3, r4, r5) := by rw [if_neg (show ¬ (false = true) by decide)] at H; exact H
            clear H
            have H := H1
            clear H1
            simp only [Option.some.injEq, Prod.mk.injEq] at H
            obtain ⟨rfl, rfl, rfl, rfl, rfl⟩ := H
            go_wp2_with (first | ((with_reducible refine gate_callee (f := 44) rfl ?_); refine goesL_ (some 46) rfl rfl Tryd.func44 (by kernel_rfl) rfl #[.slice A0 l0.length c0, .int .i64 x1_29] rfl (by (try simp only [List.map_toArray, List.map_cons, List.map_nil]); first | done | rfl | (simp only [List.length_drop, List.length_take]; rfl)) ?_; (with_reducible refine (quoinref16_term.calls kj29 _ _ l0 x1_29 false _ ?side1 ?side2 A32.out).mono ?_); (case side1 => repeat (first | exact (Kd.C_below HR0.out HB.out) | (with_reducible refine Kd.C_alloc ?_ _) | (with_reducible refine Kd.C_drewN ?_ _) | (with_reducible refine Kd.C_drew ?_))); (case side2 => exact HC0.out); rintro e w' ⟨rfl, ⟨nd, rfl⟩⟩; refine ⟨_, rfl, ?_⟩; (try (rw [drewN_self wc]; generalize hq_ : World.drewN wc _ = wc; have n0_ : Aside0 (wc.heap[gb302]? = some (.cells #[.string x303000_1, .string x303001_1, .int .i64 x303002_1, .int .u8 x303003_1] 23 (0, 0))) := ⟨by rw [← hq_]; exact (by (with_reducible repeat (first | refine blk_drewN ?_ _ | refine blk_drew ?_ | refine blk_alloc ?_ _)); exact BK302.out)⟩; have n1_ : Aside0 (wc.heap[gb303]? = some (.cells #[.string x304000_1, .string x304001_1, .int .i64 x304002_1, .int .u8 0] 23 (0, 0))) := ⟨by rw [← hq_]; exact (by (with_reducible repeat (first | refine blk_drewN ?_ _ | refine blk_drew ?_ | refine blk_alloc ?_ _)); exact BK303.out)⟩; have n2_ : Aside0 (Below w.heap.size w wc) := ⟨by rw [← hq_]; exact (by repeat (first | (with_reducible first | exact HB.out | apply below_alloc | apply pw_below_drewN | apply below_drew1 | refine below_set ?_ GE302.out | refine below_set ?_ GE303.out) | exact HB.out))⟩; clear BK302 BK303 HB hq_; have BK302 := n0_; have BK303 := n1_; have HB := n2_; clear n0_ n1_ n2_)); have hnb71 := NB303_302.out; have hnc71 := NB302_303.out; have hcz72_0 : wc.cell? ⟨gb303, 0, none⟩ = some (.string x304000_1) := (blk_cell BK303.out 0).trans rfl; have hcz72_1 : wc.cell? ⟨gb303, 1, none⟩ = some (.string x304001_1) := (blk_cell BK303.out 1).trans rfl; have hcz72_2 : wc.cell? ⟨gb303, 2, none⟩ = some (.int .i64 x304002_1) := (blk_cell BK303.out 2).trans rfl; have hcz72_3 : wc.cell? ⟨gb303, 3, none⟩ = some (.int .u8 0) := (blk_cell BK303.out 3).trans rfl; have hfz72_0 := blk_frozen BK303.out 0; have hfz72_1 := blk_frozen BK303.out 1; have hfz72_2 := blk_frozen BK303.out 2; have hfz72_3 := blk_frozen BK303.out 3; have hcz73_0 : wc.cell? ⟨gb302, 0, none⟩ = some (.string x303000_1) := (blk_cell BK302.out 0).trans rfl; have hcz73_1 : wc.cell? ⟨gb302, 1, none⟩ = some (.string x303001_1) := (blk_cell BK302.out 1).trans rfl; have hcz73_2 : wc.cell? ⟨gb302, 2, none⟩ = some (.int .i64 x303002_1) := (blk_cell BK302.out 2).trans rfl; have hcz73_3 : wc.cell? ⟨gb302, 3, none⟩ = some (.int .u8 x303003_1) := (blk_cell BK302.out 3).trans rfl; have hfz73_0 := blk_frozen BK302.out 0; have hfz73_1 := blk_frozen BK302.out 1; have hfz73_2 := blk_frozen BK302.out 2; have hfz73_3 := blk_frozen BK302.out 3))
            refine bodyPost_ret (results_ct rfl _ _ gb302 23 #[.string x304000_1, .string x304001_1, .int .i64 x304002_1, .int .u8 0] (0, 0) _ rfl (by (with_reducible repeat (first | refine blk_drewN ?_ _ | refine blk_drew ?_ | refine blk_alloc ?_ _)); refine blk_put (cs := #[.string x304000_1, .string x304001_1, .int .i64 x304002_1, .int .u8 x303003_1]) ?_ 3 _ rfl; (with_reducible repeat (first | refine blk_drewN ?_ _ | refine blk_drew ?_ | refine blk_alloc ?_ _)); refine blk_put (cs := #[.string x304000_1, .string x304001_1, .int .i64 x303002_1, .int .u8 x303003_1]) ?_ 2 _ rfl; (with_reducible repeat (first | refine blk_drewN ?_ _ | refine blk_drew ?_ | refine blk_alloc ?_ _)); refine blk_put (cs := #[.string x304000_1, .string x303001_1, .int .i64 x303002_1, .int .u8 x303003_1]) ?_ 1 _ rfl; (with_reducible repeat (first | refine blk_drewN ?_ _ | refine blk_drew ?_ | refine blk_alloc ?_ _)); refine blk_put (cs := #[.string x303000_1, .string x303001_1, .int .i64 x303002_1, .int .u8 x303003_1]) ?_ 0 _ rfl; (with_reducible repeat (first | refine blk_drewN ?_ _ | refine blk_drew ?_ | refine blk_alloc ?_ _)); exact BK302.out) Tryd.underlying23 rfl (by kernel_rfl)) rfl ?_
            exact ⟨by first | rfl | (simp [errW_none, errW_some] <;> rfl) | (simp [*, errW_none, errW_some] <;> rfl), by repeat (first | (with_reducible first | exact HB.out | apply below_alloc | apply pw_below_drewN | apply below_drew1 | refine below_set ?_ GE302.out | refine below_set ?_ GE303.out) | exact HB.out)⟩
   ·
    rw [if_neg c5] at H
    have c5b0 : decide (x9_1 ≤ (l0.length : Int)) = false := decide_eq_false c5
    clear c5
    by_cases c74 : x7_1 > 1
    ·
     rw [if_pos c74] at H
     have c74b0 : decide (1 < x7_1) = true := decide_eq_true c74
     clear c74
     simp only [Option.some.injEq, Prod.mk.injEq] at H
     obtain ⟨rfl, rfl, rfl, rfl, rfl⟩ := H
     have hnb75 := NB303_302.out
     have hnc75 := NB302_303.out
     have hcz76_0 : wr.cell? ⟨gb303, 0, none⟩ = some (.string x304000_1) := (blk_cell BK303.out 0).trans rfl
     have hcz76_1 : wr.cell? ⟨gb303, 1, none⟩ = some (.string x304001_1) := (blk_cell BK303.out 1).trans rfl
     have hcz76_2 : wr.cell? ⟨gb303, 2, none⟩ = some (.int .i64 x304002_1) := (blk_cell BK303.out 2).trans rfl
     have hcz76_3 : wr.cell? ⟨gb303, 3, none⟩ = some (.int .u8 0) := (blk_cell BK303.out 3).trans rfl
     have hfz76_0 := blk_frozen BK303.out 0
     have hfz76_1 := blk_frozen BK303.out 1
     have hfz76_2 := blk_frozen BK303.out 2
     have hfz76_3 := blk_frozen BK303.out 3
     have hcz77_0 : wr.cell? ⟨gb302, 0, none⟩ = some (.string x303000_1) := (blk_cell BK302.out 0).trans rfl
     have hcz77_1 : wr.cell? ⟨gb302, 1, none⟩ = some (.string x303001_1) := (blk_cell BK302.out 1).trans rfl
     have hcz77_2 : wr.cell? ⟨gb302, 2, none⟩ = some (.int .i64 x303002_1) := (blk_cell BK302.out 2).trans rfl
     have hcz77_3 : wr.cell? ⟨gb302, 3, none⟩ = some (.int .u8 x303003_1) := (blk_cell BK302.out 3).trans rfl
     have hfz77_0 := blk_frozen BK302.out 0
     have hfz77_1 := blk_frozen BK302.out 1
     have hfz77_2 := blk_frozen BK302.out 2
     have hfz77_3 := blk_frozen BK302.out 3
     go_wp2
     refine bodyPost_ret (results_ct rfl _ _ gb302 23 #[.string x304000_1, .string x304001_1, .int .i64 x304002_1, .int .u8 0] (0, 0) _ rfl (by (with_reducible repeat (first | refine blk_drewN ?_ _ | refine blk_drew ?_ | refine blk_alloc ?_ _)); refine blk_put (cs := #[.string x304000_1, .string x304001_1, .int .i64 x304002_1, .int .u8 x303003_1]) ?_ 3 _ rfl; (with_reducible repeat (first | refine blk_drewN ?_ _ | refine blk_drew ?_ | refine blk_alloc ?_ _)); refine blk_put (cs := #[.string x304000_1, .string x304001_1, .int .i64 x303002_1, .int .u8 x303003_1]) ?_ 2 _ rfl; (with_reducible repeat (first | refine blk_drewN ?_ _ | refine blk_drew ?_ | refine blk_alloc ?_ _)); refine blk_put (cs := #[.string x304000_1, .string x303001_1, .int .i64 x303002_1, .int .u8 x303003_1]) ?_ 1 _ rfl; (with_reducible repeat (first | refine blk_drewN ?_ _ | refine blk_drew ?_ | refine blk_alloc ?_ _)); refine blk_put (cs := #[.string x303000_1, .string x303001_1, .int .i64 x303002_1, .int .u8 x303003_1]) ?_ 0 _ rfl; (with_reducible repeat (first | refine blk_drewN ?_ _ | refine blk_drew ?_ | refine blk_alloc ?_ _)); exact BK302.out) Tryd.underlying23 rfl (by kernel_rfl)) rfl ?_
     exact ⟨by first | rfl | (simp [errW_none, errW_some] <;> rfl) | (simp [*, errW_none, errW_some] <;> rfl), by repeat (first | (with_reducible first | exact HB.out | apply below_alloc | apply pw_below_drewN | apply below_drew1 | refine below_set ?_ GE302.out | refine below_set ?_ GE303.out) | exact HB.out)⟩
    ·
     rw [if_neg c74] at H
     have c74b0 : decide (1 < x7_1) = false := decide_eq_false c74
     clear c74
     by_cases c78 : x8_1 > 1
     ·
      rw [if_pos c78] at H
      have c78b0 : decide (1 < x8_1) = true := decide_eq_true c78
      clear c78
      simp only [Option.some.injEq, Prod.mk.injEq] at H
      obtain ⟨rfl, rfl, rfl, rfl, rfl⟩ := H
      have hnb79 := NB303_302.out
      have hnc79 := NB302_303.out
      have hcz80_0 : wr.cell? ⟨gb303, 0, none⟩ = some (.string x304000_1) := (blk_cell BK303.out 0).trans rfl
      have hcz80_1 : wr.cell? ⟨gb303, 1, none⟩ = some (.string x304001_1) := (blk_cell BK303.out 1).trans rfl
      have hcz80_2 : wr.cell? ⟨gb303, 2, none⟩ = some (.int .i64 x304002_1) := (blk_cell BK303.out 2).trans rfl
      have hcz80_3 : wr.cell? ⟨gb303, 3, none⟩ = some (.int .u8 0) := (blk_cell BK303.out 3).trans rfl
      have hfz80_0 := blk_frozen BK303.out 0
      have hfz80_1 := blk_frozen BK303.out 1
      have hfz80_2 := blk_frozen BK303.out 2
      have hfz80_3 := blk_frozen BK303.out 3
      have hcz81_0 : wr.cell? ⟨gb302, 0, none⟩ = some (.string x303000_1) := (blk_cell BK302.out 0).trans rfl
      have hcz81_1 : wr.cell? ⟨gb302, 1, none⟩ = some (.string x303001_1) := (blk_cell BK302.out 1).trans rfl
      have hcz81_2 : wr.cell? ⟨gb302, 2, none⟩ = some (.int .i64 x303002_1) := (blk_cell BK302.out 2).trans rfl
      have hcz81_3 : wr.cell? ⟨gb302, 3, none⟩ = some (.int .u8 x303003_1) := (blk_cell BK302.out 3).trans rfl
      have hfz81_0 := blk_frozen BK302.out 0
      have hfz81_1 := blk_frozen BK302.out 1
      have hfz81_2 := blk_frozen BK302.out 2
      have hfz81_3 := blk_frozen BK302.out 3
      go_wp2
      refine bodyPost_ret (results_ct rfl _ _ gb302 23 #[.string x304000_1, .string x304001_1, .int .i64 x304002_1, .int .u8 0] (0, 0) _ rfl (by (with_reducible repeat (first | refine blk_drewN ?_ _ | refine blk_drew ?_ | refine blk_alloc ?_ _)); refine blk_put (cs := #[.string x304000_1, .string x304001_1, .int .i64 x304002_1, .int .u8 x303003_1]) ?_ 3 _ rfl; (with_reducible repeat (first | refine blk_drewN ?_ _ | refine blk_drew ?_ | refine blk_alloc ?_ _)); refine blk_put (cs := #[.string x304000_1, .string x304001_1, .int .i64 x303002_1, .int .u8 x303003_1]) ?_ 2 _ rfl; (with_reducible repeat (first | refine blk_drewN ?_ _ | refine blk_drew ?_ | refine blk_alloc ?_ _)); refine blk_put (cs := #[.string x304000_1, .string x303001_1, .int .i64 x303002_1, .int .u8 x303003_1]) ?_ 1 _ rfl; (with_reducible repeat (first | refine blk_drewN ?_ _ | refine blk_drew ?_ | refine blk_alloc ?_ _)); refine blk_put (cs := #[.string x303000_1, .string x303001_1, .int .i64 x303002_1, .int .u8 x303003_1]) ?_ 0 _ rfl; (with_reducible repeat (first | refine blk_drewN ?_ _ | refine blk_drew ?_ | refine blk_alloc ?_ _)); exact BK302.out) Tryd.underlying23 rfl (by kernel_rfl)) rfl ?_
      exact ⟨by first | rfl | (simp [errW_none, errW_some] <;> rfl) | (simp [*, errW_none, errW_some] <;> rfl), by repeat (first | (with_reducible first | exact HB.out | apply below_alloc | apply pw_below_drewN | apply below_drew1 | refine below_set ?_ GE302.out | refine below_set ?_ GE303.out) | exact HB.out)⟩
     ·
      rw [if_neg c78] at H
      have c78b0 : decide (1 < x8_1) = false := decide_eq_false c78
      clear c78
      by_cases c82 : x8_1 > x7_1
      ·
       rw [if_pos c82] at H
       have c82b0 : decide (x7_1 < x8_1) = true := decide_eq_true c82
       clear c82
       simp only [Option.some.injEq, Prod.mk.injEq] at H
       obtain ⟨rfl, rfl, rfl, rfl, rfl⟩ := H
       have hnb83 := NB303_302.out
       have hnc83 := NB302_303.out
       have hcz84_0 : wr.cell? ⟨gb303, 0, none⟩ = some (.string x304000_1) := (blk_cell BK303.out 0).trans rfl
       have hcz84_1 : wr.cell? ⟨gb303, 1, none⟩ = some (.string x304001_1) := (blk_cell BK303.out 1).trans rfl
       have hcz84_2 : wr.cell? ⟨gb303, 2, none⟩ = some (.int .i64 x304002_1) := (blk_cell BK303.out 2).trans rfl
       have hcz84_3 : wr.cell? ⟨gb303, 3, none⟩ = some (.int .u8 0) := (blk_cell BK303.out 3).trans rfl
       have hfz84_0 := blk_frozen BK303.out 0
       have hfz84_1 := blk_frozen BK303.out 1
       have hfz84_2 := blk_frozen BK303.out 2
       have hfz84_3 := blk_frozen BK303.out 3
       have hcz85_0 : wr.cell? ⟨gb302, 0, none⟩ = some (.string x303000_1) := (blk_cell BK302.out 0).trans rfl
       have hcz85_1 : wr.cell? ⟨gb302, 1, none⟩ = some (.string x303001_1) := (blk_cell BK302.out 1).trans rfl
       have hcz85_2 : wr.cell? ⟨gb302, 2, none⟩ = some (.int .i64 x303002_1) := (blk_cell BK302.out 2).trans rfl
       have hcz85_3 : wr.cell? ⟨gb302, 3, none⟩ = some (.int .u8 x303003_1) := (blk_cell BK302.out 3).trans rfl
       have hfz85_0 := blk_frozen BK302.out 0
       have hfz85_1 := blk_frozen BK302.out 1
       have hfz85_2 := blk_frozen BK302.out 2
       have hfz85_3 := blk_frozen BK302.out 3
       go_wp2
       refine bodyPost_ret (results_ct rfl _ _ gb302 23 #[.string x304000_1, .string x304001_1, .int .i64 x304002_1, .int .u8 0] (0, 0) _ rfl (by (with_reducible repeat (first | refine blk_drewN ?_ _ | refine blk_drew ?_ | refine blk_alloc ?_ _)); refine blk_put (cs := #[.string x304000_1, .string x304001_1, .int .i64 x304002_1, .int .u8 x303003_1]) ?_ 3 _ rfl; (with_reducible repeat (first | refine blk_drewN ?_ _ | refine blk_drew ?_ | refine blk_alloc ?_ _)); refine blk_put (cs := #[.string x304000_1, .string x304001_1, .int .i64 x303002_1, .int .u8 x303003_1]) ?_ 2 _ rfl; (with_reducible repeat (first | refine blk_drewN ?_ _ | refine blk_drew ?_ | refine blk_alloc ?_ _)); refine blk_put (cs := #[.string x304000_1, .string x303001_1, .int .i64 x303002_1, .int .u8 x303003_1]) ?_ 1 _ rfl; (with_reducible repeat (first | refine blk_drewN ?_ _ | refine blk_drew ?_ | refine blk_alloc ?_ _)); refine blk_put (cs := #[.string x303000_1, .string x303001_1, .int .i64 x303002_1, .int .u8 x303003_1]) ?_ 0 _ rfl; (with_reducible repeat (first | refine blk_drewN ?_ _ | refine blk_drew ?_ | refine blk_alloc ?_ _)); exact BK302.out) Tryd.underlying23 rfl (by kernel_rfl)) rfl ?_
       exact ⟨by first | rfl | (simp [errW_none, errW_some] <;> rfl) | (simp [*, errW_none, errW_some] <;> rfl), by repeat (first | (with_reducible first | exact HB.out | apply below_alloc | apply pw_below_drewN | apply below_drew1 | refine below_set ?_ GE302.out | refine below_set ?_ GE303.out) | exact HB.out)⟩
      ·
       rw [if_neg c82] at H
       have c82b0 : decide (x7_1 < x8_1) = false := decide_eq_false c82
       clear c82
       simp only [Option.some.injEq, Prod.mk.injEq] at H
       obtain ⟨rfl, rfl, rfl, rfl, rfl⟩ := H
       have hnb86 := NB303_302.out
       have hnc86 := NB302_303.out
       have hcz87_0 : wr.cell? ⟨gb303, 0, none⟩ = some (.string x304000_1) := (blk_cell BK303.out 0).trans rfl
       have hcz87_1 : wr.cell? ⟨gb303, 1, none⟩ = some (.string x304001_1) := (blk_cell BK303.out 1).trans rfl
       have hcz87_2 : wr.cell? ⟨gb303, 2, none⟩ = some (.int .i64 x304002_1) := (blk_cell BK303.out 2).trans rfl
       have hcz87_3 : wr.cell? ⟨gb303, 3, none⟩ = some (.int .u8 0) := (blk_cell BK303.out 3).trans rfl
       have hfz87_0 := blk_frozen BK303.out 0
       have hfz87_1 := blk_frozen BK303.out 1
       have hfz87_2 := blk_frozen BK303.out 2
       have hfz87_3 := blk_frozen BK303.out 3
       have hcz88_0 : wr.cell? ⟨gb302, 0, none⟩ = some (.string x303000_1) := (blk_cell BK302.out 0).trans rfl
       have hcz88_1 : wr.cell? ⟨gb302, 1, none⟩ = some (.string x303001_1) := (blk_cell BK302.out 1).trans rfl
       have hcz88_2 : wr.cell? ⟨gb302, 2, none⟩ = some (.int .i64 x303002_1) := (blk_cell BK302.out 2).trans rfl
       have hcz88_3 : wr.cell? ⟨gb302, 3, none⟩ = some (.int .u8 x303003_1) := (blk_cell BK302.out 3).trans rfl
       have hfz88_0 := blk_frozen BK302.out 0
       have hfz88_1 := blk_frozen BK302.out 1
       have hfz88_2 := blk_frozen BK302.out 2
       have hfz88_3 := blk_frozen BK302.out 3
       go_wp2
       refine bodyPost_ret (results_ct rfl _ _ gb302 23 #[.string x304000_1, .string x304001_1, .int .i64 x304002_1, .int .u8 0] (0, 0) _ rfl (by (with_reducible repeat (first | refine blk_drewN ?_ _ | refine blk_drew ?_ | refine blk_alloc ?_ _)); refine blk_put (cs := #[.string x304000_1, .string x304001_1, .int .i64 x304002_1, .int .u8 x303003_1]) ?_ 3 _ rfl; (with_reducible repeat (first | refine blk_drewN ?_ _ | refine blk_drew ?_ | refine blk_alloc ?_ _)); refine blk_put (cs := #[.string x304000_1, .string x304001_1, .int .i64 x303002_1, .int .u8 x303003_1]) ?_ 2 _ rfl; (with_reducible repeat (first | refine blk_drewN ?_ _ | refine blk_drew ?_ | refine blk_alloc ?_ _)); refine blk_put (cs := #[.string x304000_1, .string x303001_1, .int .i64 x303002_1, .int .u8 x303003_1]) ?_ 1 _ rfl; (with_reducible repeat (first | refine blk_drewN ?_ _ | refine blk_drew ?_ | refine blk_alloc ?_ _)); refine blk_put (cs := #[.string x303000_1, .string x303001_1, .int .i64 x303002_1, .int .u8 x303003_1]) ?_ 0 _ rfl; (with_reducible repeat (first | refine blk_drewN ?_ _ | refine blk_drew ?_ | refine blk_alloc ?_ _)); exact BK302.out) Tryd.underlying23 rfl (by kernel_rfl)) rfl ?_
       exact ⟨by first | rfl | (simp [errW_none, errW_some] <;> rfl) | (simp [*, errW_none, errW_some] <;> rfl), by repeat (first | (with_reducible first | exact HB.out | apply below_alloc | apply pw_below_drewN | apply below_drew1 | refine below_set ?_ GE302.out | refine below_set ?_ GE303.out) | exact HB.out)⟩

end Go.Proofs.YtgihgmniijhfoaaDoor.P
