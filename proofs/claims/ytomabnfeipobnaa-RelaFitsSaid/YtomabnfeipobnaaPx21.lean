-- Written by pext.py, a program of this session, over the kit's print: a function's contract
import Derived.Test.YtomabnfeipobnaaPx0
namespace Go.Proofs.Ytomabnfeipobnaa.P
open Go.RowKit Go.Proofs.YtomabnfeipobnaaW.PrintWords Go.Proofs.YtomabnfeipobnaaW.PrintLast Go.Proofs.YtomabnfeipobnaaW.PrintMore
attribute [local go_sem] max2_int min2_int max_two min_two max_three min_three max_four min_four   -- for this text's walks alone
set_option linter.unusedVariables false
set_option linter.unusedSimpArgs false

/-! ### quoinlaw11_large: function 53 -/
def quoinlaw11_large.l0 : Nat → List (S36) → Int → Option (Bool)
 | 0, _, _ => none
 | k + 1, x0, x3 => if x3 < (x0.length : Int) then (if 0 ≤ x3 then (if (((rd_T36 x0 x3).f0).size : Int) > 1000 then (some true) else (if (((rd_T36 x0 x3).f2).length : Int) > 10000 then (some true) else (quoinlaw11_large.l0 k x0 (wrap64 (x3 + 1))))) else (none)) else (some false)
def quoinlaw11_large.f (k : Nat) (l0 : List (S36)) : Option (Bool) := quoinlaw11_large.l0 k l0 0
theorem quoinlaw11_large.mono_l : ∀ k, (∀ y0 y1, LeO (quoinlaw11_large.l0 k y0 y1) (quoinlaw11_large.l0 (k + 1) y0 y1))
 | 0 => fun _ _ r h => by simp [quoinlaw11_large.l0] at h
 | k + 1 => by
  have ih0 := quoinlaw11_large.mono_l k
  ·
   intro y0 y1
   unfold quoinlaw11_large.l0
   repeat' first
   | (with_reducible exact ih0 _ _)
   | (with_reducible exact LeO.refl _)
   | (with_reducible exact LeO.none _)
   | (with_reducible refine LeO.ite ?_ ?_)
   | (with_reducible refine LeO.bind ?_ (fun _ => ?_))
   | exact ih0 _ _
   | exact LeO.none _
   | refine LeO.ite ?_ ?_
   | refine LeO.bind ?_ (fun _ => ?_)
theorem quoinlaw11_large.mono : ∀ a0 k, LeO (quoinlaw11_large.f k a0) (quoinlaw11_large.f (k + 1) a0) := by
 intro a0 k
 have ih0 := quoinlaw11_large.mono_l k
 unfold quoinlaw11_large.f
 repeat' first
   | (with_reducible exact ih0 _ _)
   | (with_reducible exact LeO.refl _)
   | (with_reducible exact LeO.none _)
   | (with_reducible refine LeO.ite ?_ ?_)
   | (with_reducible refine LeO.bind ?_ (fun _ => ?_))
   | exact ih0 _ _
   | exact LeO.none _
   | refine LeO.ite ?_ ?_
   | refine LeO.bind ?_ (fun _ => ?_)
set_option maxHeartbeats 8000000 in
set_option maxRecDepth 100000 in
theorem quoinlaw11_large.calls (k : Nat) (A0 : Option Addr) (c0 : Nat) (l0 : List (S36)) (r : Bool) (w : World) (hr0 : Kd.C k36 w A0 l0.length l0) (hc0 : l0.length ≤ c0) (h : quoinlaw11_large.f k l0 = some r) :
  Calls Try.prog 53 #[.slice A0 l0.length c0] w fun e w' => e = .returned (.bool r) ∧ Drawn0 w w' := by
 have HR0 := Aside0.mk hr0
 have HC0 := Aside0.mk hc0
 clear hr0 hc0
 have H : (quoinlaw11_large.l0 k l0 0) = some r := h
 clear h
 have H' := Aside0.mk H
 clear H
 go_enter Try.func53, Try.ntmps53
 go_wp2
 go_loopg [3] k (fun kq v3 w' => ∃ (x3_1 : Int), v3 = .int .i64 x3_1 ∧ Aside0 (quoinlaw11_large.l0 kq l0 x3_1 = some r) ∧ Aside0 (kq ≤ k) ∧ Drawn0 w w')
 case atStart => exact ⟨(0), (by first | rfl | (simp; done) | (simp [*]; done)), H', ⟨Nat.le_refl _⟩, by repeat (first | exact Drawn0.refl _ | apply Drawn0.step)⟩
 case round =>
  clear H'
  obtain ⟨x3_1, rfl, HA, HK1, ⟨m1, rfl⟩⟩ := hrel
  cases gk with
  | zero => exact absurd HA.out (by simp [quoinlaw11_large.l0])
  | succ k1 =>
   have H := HA.out
   clear HA
   simp only [quoinlaw11_large.l0] at H
   by_cases c2 : x3_1 < (l0.length : Int)
   ·
    rw [if_pos c2] at H
    have c2b0 : decide (x3_1 < (l0.length : Int)) = true := decide_eq_true c2
    clear c2
    by_cases c3 : 0 ≤ x3_1
    ·
     rw [if_pos c3] at H
     have c3b0 : decide (0 ≤ x3_1) = true := decide_eq_true c3
     clear c3
     by_cases c4 : (((rd_T36 l0 x3_1).f0).size : Int) > 1000
     ·
      rw [if_pos c4] at H
      have c4b0 : decide (1000 < (((rd_T36 l0 x3_1).f0).size : Int)) = true := decide_eq_true c4
      have c4b1 : decide (1000 < ((rd_T36 l0 x3_1).f0).size) = true := decide_eq_true (by omega)
      clear c4
      obtain rfl := Option.some.inj H
      have p706 : 0 ≤ (x3_1 : Int) := of_decide_eq_true (by first | (with_reducible assumption) | assumption)
      have q706 : x3_1 < (l0.length : Int) := of_decide_eq_true (by first | (with_reducible assumption) | assumption)
      obtain ⟨ad706, A706_2, c706_2, e706, hx706_0, hx706_1, hx706_2, hx706_3, hl706_2, hi706_2⟩ := at_T36 HR0.out x3_1 p706 q706
      cases e706
      have HR706_2 := Aside0.mk hi706_2
      have HC706_2 := Aside0.mk hl706_2
      clear hi706_2 hl706_2
      replace p706 := eq_true p706
      replace q706 := eq_true q706
      go_wp2
      go_ret
      exact ⟨by first | rfl | (simp; done) | (simp [*]; done), by repeat (first | exact Drawn0.refl _ | apply Drawn0.step)⟩
     ·
      rw [if_neg c4] at H
      have c4b0 : decide (1000 < (((rd_T36 l0 x3_1).f0).size : Int)) = false := decide_eq_false c4
      have c4b1 : decide (1000 < ((rd_T36 l0 x3_1).f0).size) = false := decide_eq_false (by omega)
      clear c4
      by_cases c5 : (((rd_T36 l0 x3_1).f2).length : Int) > 10000
      ·
       rw [if_pos c5] at H
       have c5b0 : decide (10000 < (((rd_T36 l0 x3_1).f2).length : Int)) = true := decide_eq_true c5
       have c5b1 : decide (10000 < ((rd_T36 l0 x3_1).f2).length) = true := decide_eq_true (by omega)
       clear c5
       obtain rfl := Option.some.inj H
       have p706 : 0 ≤ (x3_1 : Int) := of_decide_eq_true (by first | (with_reducible assumption) | assumption)
       have q706 : x3_1 < (l0.length : Int) := of_decide_eq_true (by first | (with_reducible assumption) | assumption)
       obtain ⟨ad706, A706_2, c706_2, e706, hx706_0, hx706_1, hx706_2, hx706_3, hl706_2, hi706_2⟩ := at_T36 HR0.out x3_1 p706 q706
       cases e706
       have HR706_2 := Aside0.mk hi706_2
       have HC706_2 := Aside0.mk hl706_2
       clear hi706_2 hl706_2
       replace p706 := eq_true p706
       replace q706 := eq_true q706
       have p707 : 0 ≤ (x3_1 : Int) := of_decide_eq_true (by first | (with_reducible assumption) | assumption)
       have q707 : x3_1 < (l0.length : Int) := of_decide_eq_true (by first | (with_reducible assumption) | assumption)
       obtain ⟨ad707, A707_2, c707_2, e707, hx707_0, hx707_1, hx707_2, hx707_3, hl707_2, hi707_2⟩ := at_T36 HR0.out x3_1 p707 q707
       obtain rfl : ad706 = ad707 := (by injection e707)
       have HR707_2 := Aside0.mk hi707_2
       have HC707_2 := Aside0.mk hl707_2
       clear hi707_2 hl707_2
       replace p707 := eq_true p707
       replace q707 := eq_true q707
       have ea_ := Option.some.inj (hx706_2.symm.trans hx707_2)
       injection ea_ with ea_ en_ ec_
       subst ea_
       subst ec_
       clear en_
       go_wp2
       go_ret
       exact ⟨by first | rfl | (simp; done) | (simp [*]; done), by repeat (first | exact Drawn0.refl _ | apply Drawn0.step)⟩
      ·
       rw [if_neg c5] at H
       have c5b0 : decide (10000 < (((rd_T36 l0 x3_1).f2).length : Int)) = false := decide_eq_false c5
       have c5b1 : decide (10000 < ((rd_T36 l0 x3_1).f2).length) = false := decide_eq_false (by omega)
       clear c5
       have H' := Aside0.mk H
       clear H
       have p706 : 0 ≤ (x3_1 : Int) := of_decide_eq_true (by first | (with_reducible assumption) | assumption)
       have q706 : x3_1 < (l0.length : Int) := of_decide_eq_true (by first | (with_reducible assumption) | assumption)
       obtain ⟨ad706, A706_2, c706_2, e706, hx706_0, hx706_1, hx706_2, hx706_3, hl706_2, hi706_2⟩ := at_T36 HR0.out x3_1 p706 q706
       cases e706
       have HR706_2 := Aside0.mk hi706_2
       have HC706_2 := Aside0.mk hl706_2
       clear hi706_2 hl706_2
       replace p706 := eq_true p706
       replace q706 := eq_true q706
       have p707 : 0 ≤ (x3_1 : Int) := of_decide_eq_true (by first | (with_reducible assumption) | assumption)
       have q707 : x3_1 < (l0.length : Int) := of_decide_eq_true (by first | (with_reducible assumption) | assumption)
       obtain ⟨ad707, A707_2, c707_2, e707, hx707_0, hx707_1, hx707_2, hx707_3, hl707_2, hi707_2⟩ := at_T36 HR0.out x3_1 p707 q707
       obtain rfl : ad706 = ad707 := (by injection e707)
       have HR707_2 := Aside0.mk hi707_2
       have HC707_2 := Aside0.mk hl707_2
       clear hi707_2 hl707_2
       replace p707 := eq_true p707
       replace q707 := eq_true q707
       have ea_ := Option.some.inj (hx706_2.symm.trans hx707_2)
       injection ea_ with ea_ en_ ec_
       subst ea_
       subst ec_
       clear en_
       go_wp2
       go_roundg k1
       case measure => have := HK1.out; omega
       case rel => exact ⟨(wrap64 (x3_1 + 1)), (by first | rfl | (simp; done) | (simp [*]; done)), H', ⟨by have := HK1.out; omega⟩, by repeat (first | exact Drawn0.refl _ | apply Drawn0.step)⟩
    ·
     rw [if_neg c3] at H
     exact absurd H (by simp)
   ·
    rw [if_neg c2] at H
    have c2b0 : decide (x3_1 < (l0.length : Int)) = false := decide_eq_false c2
    clear c2
    obtain rfl := Option.some.inj H
    go_wp2
    go_ret
    exact ⟨by first | rfl | (simp; done) | (simp [*]; done), by repeat (first | exact Drawn0.refl _ | apply Drawn0.step)⟩

end Go.Proofs.Ytomabnfeipobnaa.P
