-- Written by pext.py, a program of this session, over the kit's print: a function's contract
import Derived.Test.YtgihgmniijhfoaaDoorPx0
namespace Go.Proofs.YtgihgmniijhfoaaDoor.P
open Go.RowKit Go.Proofs.YtgihgmniijhfoaaDoorW.PrintWords Go.Proofs.YtgihgmniijhfoaaDoorW.PrintLast Go.Proofs.YtgihgmniijhfoaaDoorW.PrintMore
attribute [local go_sem] max2_int min2_int max_two min_two max_three min_three max_four min_four   -- for this text's walks alone
set_option linter.unusedVariables false
set_option linter.unusedSimpArgs false

/-! ### lex_mark: function 45 -/
def lex_mark.f (a0 : Int) : Option (Bool) := if a0 = 44 then (some true) else (if a0 = 40 then (some true) else (if a0 = 41 then (some true) else (if a0 = 43 then (some true) else (if a0 = 45 then (some true) else (if a0 = 58 then (some true) else (some false))))))
set_option maxHeartbeats 8000000 in
set_option maxRecDepth 100000 in
theorem lex_mark.calls (a0 : Int) (r : Bool) (w : World) (h : lex_mark.f a0 = some r) :
  Calls Tryd.prog 45 #[.int .u8 a0] w fun e w' => e = .returned (.bool r) ∧ Drawn0 w w' := by
 have H : (if a0 = 44 then (some true) else (if a0 = 40 then (some true) else (if a0 = 41 then (some true) else (if a0 = 43 then (some true) else (if a0 = 45 then (some true) else (if a0 = 58 then (some true) else (some false))))))) = some r := h
 clear h
 by_cases c2 : a0 = 44
 ·
  rw [if_pos c2] at H
  have c2b0 : (a0 == 44) = true := beq_iff_eq.mpr c2
  have c2b1 : (a0 != 44) = false := bne_eq_false_iff_eq.mpr c2
  clear c2
  obtain rfl := Option.some.inj H
  go_enter Tryd.func45, Tryd.ntmps45
  go_wp2
  go_ret
  exact ⟨by first | rfl | (simp; done) | (simp [*]; done), by repeat (first | exact Drawn0.refl _ | apply Drawn0.step)⟩
 ·
  rw [if_neg c2] at H
  have c2b0 : (a0 == 44) = false := beq_eq_false_iff_ne.mpr c2
  have c2b1 : (a0 != 44) = true := bne_iff_ne.mpr c2
  by_cases c3 : a0 = 40
  ·
   rw [if_pos c3] at H
   have c3b0 : (a0 == 40) = true := beq_iff_eq.mpr c3
   have c3b1 : (a0 != 40) = false := bne_eq_false_iff_eq.mpr c3
   clear c3
   obtain rfl := Option.some.inj H
   go_enter Tryd.func45, Tryd.ntmps45
   go_wp2
   go_ret
   exact ⟨by first | rfl | (simp; done) | (simp [*]; done), by repeat (first | exact Drawn0.refl _ | apply Drawn0.step)⟩
  ·
   rw [if_neg c3] at H
   have c3b0 : (a0 == 40) = false := beq_eq_false_iff_ne.mpr c3
   have c3b1 : (a0 != 40) = true := bne_iff_ne.mpr c3
   by_cases c4 : a0 = 41
   ·
    rw [if_pos c4] at H
    have c4b0 : (a0 == 41) = true := beq_iff_eq.mpr c4
    have c4b1 : (a0 != 41) = false := bne_eq_false_iff_eq.mpr c4
    clear c4
    obtain rfl := Option.some.inj H
    go_enter Tryd.func45, Tryd.ntmps45
    go_wp2
    go_ret
    exact ⟨by first | rfl | (simp; done) | (simp [*]; done), by repeat (first | exact Drawn0.refl _ | apply Drawn0.step)⟩
   ·
    rw [if_neg c4] at H
    have c4b0 : (a0 == 41) = false := beq_eq_false_iff_ne.mpr c4
    have c4b1 : (a0 != 41) = true := bne_iff_ne.mpr c4
    by_cases c5 : a0 = 43
    ·
     rw [if_pos c5] at H
     have c5b0 : (a0 == 43) = true := beq_iff_eq.mpr c5
     have c5b1 : (a0 != 43) = false := bne_eq_false_iff_eq.mpr c5
     clear c5
     obtain rfl := Option.some.inj H
     go_enter Tryd.func45, Tryd.ntmps45
     go_wp2
     go_ret
     exact ⟨by first | rfl | (simp; done) | (simp [*]; done), by repeat (first | exact Drawn0.refl _ | apply Drawn0.step)⟩
    ·
     rw [if_neg c5] at H
     have c5b0 : (a0 == 43) = false := beq_eq_false_iff_ne.mpr c5
     have c5b1 : (a0 != 43) = true := bne_iff_ne.mpr c5
     by_cases c6 : a0 = 45
     ·
      rw [if_pos c6] at H
      have c6b0 : (a0 == 45) = true := beq_iff_eq.mpr c6
      have c6b1 : (a0 != 45) = false := bne_eq_false_iff_eq.mpr c6
      clear c6
      obtain rfl := Option.some.inj H
      go_enter Tryd.func45, Tryd.ntmps45
      go_wp2
      go_ret
      exact ⟨by first | rfl | (simp; done) | (simp [*]; done), by repeat (first | exact Drawn0.refl _ | apply Drawn0.step)⟩
     ·
      rw [if_neg c6] at H
      have c6b0 : (a0 == 45) = false := beq_eq_false_iff_ne.mpr c6
      have c6b1 : (a0 != 45) = true := bne_iff_ne.mpr c6
      by_cases c7 : a0 = 58
      ·
       rw [if_pos c7] at H
       have c7b0 : (a0 == 58) = true := beq_iff_eq.mpr c7
       have c7b1 : (a0 != 58) = false := bne_eq_false_iff_eq.mpr c7
       clear c7
       obtain rfl := Option.some.inj H
       go_enter Tryd.func45, Tryd.ntmps45
       go_wp2
       go_ret
       exact ⟨by first | rfl | (simp; done) | (simp [*]; done), by repeat (first | exact Drawn0.refl _ | apply Drawn0.step)⟩
      ·
       rw [if_neg c7] at H
       have c7b0 : (a0 == 58) = false := beq_eq_false_iff_ne.mpr c7
       have c7b1 : (a0 != 58) = true := bne_iff_ne.mpr c7
       obtain rfl := Option.some.inj H
       go_enter Tryd.func45, Tryd.ntmps45
       go_wp2
       go_ret
       exact ⟨by first | rfl | (simp; done) | (simp [*]; done), by repeat (first | exact Drawn0.refl _ | apply Drawn0.step)⟩

/-! ### lex_start: function 47 -/
def lex_start.f (a0 : Int) : Option (Bool) := if a0 ≥ 97 then (if a0 ≤ 122 then (some true) else (if a0 ≥ 65 then (if a0 ≤ 90 then (some true) else (if a0 = 95 then (some true) else (if a0 = 46 then (some true) else (if a0 = 36 then (some true) else (some (a0 == 37)))))) else (if a0 = 95 then (some true) else (if a0 = 46 then (some true) else (if a0 = 36 then (some true) else (some (a0 == 37))))))) else (if a0 ≥ 65 then (if a0 ≤ 90 then (some true) else (if a0 = 95 then (some true) else (if a0 = 46 then (some true) else (if a0 = 36 then (some true) else (some (a0 == 37)))))) else (if a0 = 95 then (some true) else (if a0 = 46 then (some true) else (if a0 = 36 then (some true) else (some (a0 == 37))))))
set_option maxHeartbeats 8000000 in
set_option maxRecDepth 100000 in
theorem lex_start.calls (a0 : Int) (r : Bool) (w : World) (h : lex_start.f a0 = some r) :
  Calls Tryd.prog 47 #[.int .u8 a0] w fun e w' => e = .returned (.bool r) ∧ Drawn0 w w' := by
 have H : (if a0 ≥ 97 then (if a0 ≤ 122 then (some true) else (if a0 ≥ 65 then (if a0 ≤ 90 then (some true) else (if a0 = 95 then (some true) else (if a0 = 46 then (some true) else (if a0 = 36 then (some true) else (some (a0 == 37)))))) else (if a0 = 95 then (some true) else (if a0 = 46 then (some true) else (if a0 = 36 then (some true) else (some (a0 == 37))))))) else (if a0 ≥ 65 then (if a0 ≤ 90 then (some true) else (if a0 = 95 then (some true) else (if a0 = 46 then (some true) else (if a0 = 36 then (some true) else (some (a0 == 37)))))) else (if a0 = 95 then (some true) else (if a0 = 46 then (some true) else (if a0 = 36 then (some true) else (some (a0 == 37))))))) = some r := h
 clear h
 by_cases c2 : a0 ≥ 97
 ·
  rw [if_pos c2] at H
  have c2b0 : decide (97 ≤ a0) = true := decide_eq_true c2
  clear c2
  by_cases c3 : a0 ≤ 122
  ·
   rw [if_pos c3] at H
   have c3b0 : decide (a0 ≤ 122) = true := decide_eq_true c3
   clear c3
   obtain rfl := Option.some.inj H
   go_enter Tryd.func47, Tryd.ntmps47
   go_wp2
   go_ret
   exact ⟨by first | rfl | (simp; done) | (simp [*]; done), by repeat (first | exact Drawn0.refl _ | apply Drawn0.step)⟩
  ·
   rw [if_neg c3] at H
   have c3b0 : decide (a0 ≤ 122) = false := decide_eq_false c3
   clear c3
   by_cases c4 : a0 ≥ 65
   ·
    rw [if_pos c4] at H
    have c4b0 : decide (65 ≤ a0) = true := decide_eq_true c4
    clear c4
    by_cases c5 : a0 ≤ 90
    ·
     rw [if_pos c5] at H
     have c5b0 : decide (a0 ≤ 90) = true := decide_eq_true c5
     clear c5
     obtain rfl := Option.some.inj H
     go_enter Tryd.func47, Tryd.ntmps47
     go_wp2
     go_ret
     exact ⟨by first | rfl | (simp; done) | (simp [*]; done), by repeat (first | exact Drawn0.refl _ | apply Drawn0.step)⟩
    ·
     rw [if_neg c5] at H
     have c5b0 : decide (a0 ≤ 90) = false := decide_eq_false c5
     clear c5
     by_cases c6 : a0 = 95
     ·
      rw [if_pos c6] at H
      have c6b0 : (a0 == 95) = true := beq_iff_eq.mpr c6
      have c6b1 : (a0 != 95) = false := bne_eq_false_iff_eq.mpr c6
      clear c6
      obtain rfl := Option.some.inj H
      go_enter Tryd.func47, Tryd.ntmps47
      go_wp2
      go_ret
      exact ⟨by first | rfl | (simp; done) | (simp [*]; done), by repeat (first | exact Drawn0.refl _ | apply Drawn0.step)⟩
     ·
      rw [if_neg c6] at H
      have c6b0 : (a0 == 95) = false := beq_eq_false_iff_ne.mpr c6
      have c6b1 : (a0 != 95) = true := bne_iff_ne.mpr c6
      by_cases c7 : a0 = 46
      ·
       rw [if_pos c7] at H
       have c7b0 : (a0 == 46) = true := beq_iff_eq.mpr c7
       have c7b1 : (a0 != 46) = false := bne_eq_false_iff_eq.mpr c7
       clear c7
       obtain rfl := Option.some.inj H
       go_enter Tryd.func47, Tryd.ntmps47
       go_wp2
       go_ret
       exact ⟨by first | rfl | (simp; done) | (simp [*]; done), by repeat (first | exact Drawn0.refl _ | apply Drawn0.step)⟩
      ·
       rw [if_neg c7] at H
       have c7b0 : (a0 == 46) = false := beq_eq_false_iff_ne.mpr c7
       have c7b1 : (a0 != 46) = true := bne_iff_ne.mpr c7
       by_cases c8 : a0 = 36
       ·
        rw [if_pos c8] at H
        have c8b0 : (a0 == 36) = true := beq_iff_eq.mpr c8
        have c8b1 : (a0 != 36) = false := bne_eq_false_iff_eq.mpr c8
        clear c8
        obtain rfl := Option.some.inj H
        go_enter Tryd.func47, Tryd.ntmps47
        go_wp2
        go_ret
        exact ⟨by first | rfl | (simp; done) | (simp [*]; done), by repeat (first | exact Drawn0.refl _ | apply Drawn0.step)⟩
       ·
        rw [if_neg c8] at H
        have c8b0 : (a0 == 36) = false := beq_eq_false_iff_ne.mpr c8
        have c8b1 : (a0 != 36) = true := bne_iff_ne.mpr c8
        obtain rfl := Option.some.inj H
        go_enter Tryd.func47, Tryd.ntmps47
        go_wp2
        go_ret
        exact ⟨by first | rfl | (simp; done) | (simp [*]; done), by repeat (first | exact Drawn0.refl _ | apply Drawn0.step)⟩
   ·
    rw [if_neg c4] at H
    have c4b0 : decide (65 ≤ a0) = false := decide_eq_false c4
    clear c4
    by_cases c9 : a0 = 95
    ·
     rw [if_pos c9] at H
     have c9b0 : (a0 == 95) = true := beq_iff_eq.mpr c9
     have c9b1 : (a0 != 95) = false := bne_eq_false_iff_eq.mpr c9
     clear c9
     obtain rfl := Option.some.inj H
     go_enter Tryd.func47, Tryd.ntmps47
     go_wp2
     go_ret
     exact ⟨by first | rfl | (simp; done) | (simp [*]; done), by repeat (first | exact Drawn0.refl _ | apply Drawn0.step)⟩
    ·
     rw [if_neg c9] at H
     have c9b0 : (a0 == 95) = false := beq_eq_false_iff_ne.mpr c9
     have c9b1 : (a0 != 95) = true := bne_iff_ne.mpr c9
     by_cases c10 : a0 = 46
     ·
      rw [if_pos c10] at H
      have c10b0 : (a0 == 46) = true := beq_iff_eq.mpr c10
      have c10b1 : (a0 != 46) = false := bne_eq_false_iff_eq.mpr c10
      clear c10
      obtain rfl := Option.some.inj H
      go_enter Tryd.func47, Tryd.ntmps47
      go_wp2
      go_ret
      exact ⟨by first | rfl | (simp; done) | (simp [*]; done), by repeat (first | exact Drawn0.refl _ | apply Drawn0.step)⟩
     ·
      rw [if_neg c10] at H
      have c10b0 : (a0 == 46) = false := beq_eq_false_iff_ne.mpr c10
      have c10b1 : (a0 != 46) = true := bne_iff_ne.mpr c10
      by_cases c11 : a0 = 36
      ·
       rw [if_pos c11] at H
       have c11b0 : (a0 == 36) = true := beq_iff_eq.mpr c11
       have c11b1 : (a0 != 36) = false := bne_eq_false_iff_eq.mpr c11
       clear c11
       obtain rfl := Option.some.inj H
       go_enter Tryd.func47, Tryd.ntmps47
       go_wp2
       go_ret
       exact ⟨by first | rfl | (simp; done) | (simp [*]; done), by repeat (first | exact Drawn0.refl _ | apply Drawn0.step)⟩
      ·
       rw [if_neg c11] at H
       have c11b0 : (a0 == 36) = false := beq_eq_false_iff_ne.mpr c11
       have c11b1 : (a0 != 36) = true := bne_iff_ne.mpr c11
       obtain rfl := Option.some.inj H
       go_enter Tryd.func47, Tryd.ntmps47
       go_wp2
       go_ret
       exact ⟨by first | rfl | (simp; done) | (simp [*]; done), by repeat (first | exact Drawn0.refl _ | apply Drawn0.step)⟩
 ·
  rw [if_neg c2] at H
  have c2b0 : decide (97 ≤ a0) = false := decide_eq_false c2
  clear c2
  by_cases c12 : a0 ≥ 65
  ·
   rw [if_pos c12] at H
   have c12b0 : decide (65 ≤ a0) = true := decide_eq_true c12
   clear c12
   by_cases c13 : a0 ≤ 90
   ·
    rw [if_pos c13] at H
    have c13b0 : decide (a0 ≤ 90) = true := decide_eq_true c13
    clear c13
    obtain rfl := Option.some.inj H
    go_enter Tryd.func47, Tryd.ntmps47
    go_wp2
    go_ret
    exact ⟨by first | rfl | (simp; done) | (simp [*]; done), by repeat (first | exact Drawn0.refl _ | apply Drawn0.step)⟩
   ·
    rw [if_neg c13] at H
    have c13b0 : decide (a0 ≤ 90) = false := decide_eq_false c13
    clear c13
    by_cases c14 : a0 = 95
    ·
     rw [if_pos c14] at H
     have c14b0 : (a0 == 95) = true := beq_iff_eq.mpr c14
     have c14b1 : (a0 != 95) = false := bne_eq_false_iff_eq.mpr c14
     clear c14
     obtain rfl := Option.some.inj H
     go_enter Tryd.func47, Tryd.ntmps47
     go_wp2
     go_ret
     exact ⟨by first | rfl | (simp; done) | (simp [*]; done), by repeat (first | exact Drawn0.refl _ | apply Drawn0.step)⟩
    ·
     rw [if_neg c14] at H
     have c14b0 : (a0 == 95) = false := beq_eq_false_iff_ne.mpr c14
     have c14b1 : (a0 != 95) = true := bne_iff_ne.mpr c14
     by_cases c15 : a0 = 46
     ·
      rw [if_pos c15] at H
      have c15b0 : (a0 == 46) = true := beq_iff_eq.mpr c15
      have c15b1 : (a0 != 46) = false := bne_eq_false_iff_eq.mpr c15
      clear c15
      obtain rfl := Option.some.inj H
      go_enter Tryd.func47, Tryd.ntmps47
      go_wp2
      go_ret
      exact ⟨by first | rfl | (simp; done) | (simp [*]; done), by repeat (first | exact Drawn0.refl _ | apply Drawn0.step)⟩
     ·
      rw [if_neg c15] at H
      have c15b0 : (a0 == 46) = false := beq_eq_false_iff_ne.mpr c15
      have c15b1 : (a0 != 46) = true := bne_iff_ne.mpr c15
      by_cases c16 : a0 = 36
      ·
       rw [if_pos c16] at H
       have c16b0 : (a0 == 36) = true := beq_iff_eq.mpr c16
       have c16b1 : (a0 != 36) = false := bne_eq_false_iff_eq.mpr c16
       clear c16
       obtain rfl := Option.some.inj H
       go_enter Tryd.func47, Tryd.ntmps47
       go_wp2
       go_ret
       exact ⟨by first | rfl | (simp; done) | (simp [*]; done), by repeat (first | exact Drawn0.refl _ | apply Drawn0.step)⟩
      ·
       rw [if_neg c16] at H
       have c16b0 : (a0 == 36) = false := beq_eq_false_iff_ne.mpr c16
       have c16b1 : (a0 != 36) = true := bne_iff_ne.mpr c16
       obtain rfl := Option.some.inj H
       go_enter Tryd.func47, Tryd.ntmps47
       go_wp2
       go_ret
       exact ⟨by first | rfl | (simp; done) | (simp [*]; done), by repeat (first | exact Drawn0.refl _ | apply Drawn0.step)⟩
  ·
   rw [if_neg c12] at H
   have c12b0 : decide (65 ≤ a0) = false := decide_eq_false c12
   clear c12
   by_cases c17 : a0 = 95
   ·
    rw [if_pos c17] at H
    have c17b0 : (a0 == 95) = true := beq_iff_eq.mpr c17
    have c17b1 : (a0 != 95) = false := bne_eq_false_iff_eq.mpr c17
    clear c17
    obtain rfl := Option.some.inj H
    go_enter Tryd.func47, Tryd.ntmps47
    go_wp2
    go_ret
    exact ⟨by first | rfl | (simp; done) | (simp [*]; done), by repeat (first | exact Drawn0.refl _ | apply Drawn0.step)⟩
   ·
    rw [if_neg c17] at H
    have c17b0 : (a0 == 95) = false := beq_eq_false_iff_ne.mpr c17
    have c17b1 : (a0 != 95) = true := bne_iff_ne.mpr c17
    by_cases c18 : a0 = 46
    ·
     rw [if_pos c18] at H
     have c18b0 : (a0 == 46) = true := beq_iff_eq.mpr c18
     have c18b1 : (a0 != 46) = false := bne_eq_false_iff_eq.mpr c18
     clear c18
     obtain rfl := Option.some.inj H
     go_enter Tryd.func47, Tryd.ntmps47
     go_wp2
     go_ret
     exact ⟨by first | rfl | (simp; done) | (simp [*]; done), by repeat (first | exact Drawn0.refl _ | apply Drawn0.step)⟩
    ·
     rw [if_neg c18] at H
     have c18b0 : (a0 == 46) = false := beq_eq_false_iff_ne.mpr c18
     have c18b1 : (a0 != 46) = true := bne_iff_ne.mpr c18
     by_cases c19 : a0 = 36
     ·
      rw [if_pos c19] at H
      have c19b0 : (a0 == 36) = true := beq_iff_eq.mpr c19
      have c19b1 : (a0 != 36) = false := bne_eq_false_iff_eq.mpr c19
      clear c19
      obtain rfl := Option.some.inj H
      go_enter Tryd.func47, Tryd.ntmps47
      go_wp2
      go_ret
      exact ⟨by first | rfl | (simp; done) | (simp [*]; done), by repeat (first | exact Drawn0.refl _ | apply Drawn0.step)⟩
     ·
      rw [if_neg c19] at H
      have c19b0 : (a0 == 36) = false := beq_eq_false_iff_ne.mpr c19
      have c19b1 : (a0 != 36) = true := bne_iff_ne.mpr c19
      obtain rfl := Option.some.inj H
      go_enter Tryd.func47, Tryd.ntmps47
      go_wp2
      go_ret
      exact ⟨by first | rfl | (simp; done) | (simp [*]; done), by repeat (first | exact Drawn0.refl _ | apply Drawn0.step)⟩

/-! ### lex_digit: function 63 -/
def lex_digit.f (a0 : Int) : Option (Bool) := if a0 ≥ 48 then (some (decide (a0 ≤ 57))) else (some false)
set_option maxHeartbeats 8000000 in
set_option maxRecDepth 100000 in
theorem lex_digit.calls (a0 : Int) (r : Bool) (w : World) (h : lex_digit.f a0 = some r) :
  Calls Tryd.prog 63 #[.int .u8 a0] w fun e w' => e = .returned (.bool r) ∧ Drawn0 w w' := by
 have H : (if a0 ≥ 48 then (some (decide (a0 ≤ 57))) else (some false)) = some r := h
 clear h
 by_cases c2 : a0 ≥ 48
 ·
  rw [if_pos c2] at H
  have c2b0 : decide (48 ≤ a0) = true := decide_eq_true c2
  clear c2
  obtain rfl := Option.some.inj H
  go_enter Tryd.func63, Tryd.ntmps63
  go_wp2
  go_ret
  exact ⟨by first | rfl | (simp; done) | (simp [*]; done), by repeat (first | exact Drawn0.refl _ | apply Drawn0.step)⟩
 ·
  rw [if_neg c2] at H
  have c2b0 : decide (48 ≤ a0) = false := decide_eq_false c2
  clear c2
  obtain rfl := Option.some.inj H
  go_enter Tryd.func63, Tryd.ntmps63
  go_wp2
  go_ret
  exact ⟨by first | rfl | (simp; done) | (simp [*]; done), by repeat (first | exact Drawn0.refl _ | apply Drawn0.step)⟩

/-! ### lex_inside: function 49 -/
def lex_inside.f (a0 : Int) : Option (Bool) := (lex_start.f a0).bind fun t101 => (if t101 = true then (if a0 = 37 then ((lex_digit.f a0).bind fun t102 => (some t102)) else (some true)) else ((lex_digit.f a0).bind fun t103 => (some t103)))
set_option maxHeartbeats 8000000 in
set_option maxRecDepth 100000 in
theorem lex_inside.calls (a0 : Int) (r : Bool) (w : World) (h : lex_inside.f a0 = some r) :
  Calls Tryd.prog 49 #[.int .u8 a0] w fun e w' => e = .returned (.bool r) ∧ Drawn0 w w' := by
 have H : ((lex_start.f a0).bind fun t101 => (if t101 = true then (if a0 = 37 then ((lex_digit.f a0).bind fun t102 => (some t102)) else (some true)) else ((lex_digit.f a0).bind fun t103 => (some t103)))) = some r := h
 clear h
 replace H := Option.bind_eq_some_iff.mp H
 obtain ⟨t101, A20, H⟩ := H
 replace H : (if t101 = true then (if a0 = 37 then ((lex_digit.f a0).bind fun t102 => (some t102)) else (some true)) else ((lex_digit.f a0).bind fun t103 => (some t103))) = some r := H
 have A2 := Aside0.mk A20
 clear A20
 by_cases c3 : t101 = true
 ·
  subst c3
  have H1 : (if a0 = 37 then ((lex_digit.f a0).bind fun t102 => (some t102)) else (some true)) = some r := by rw [if_pos rfl] at H; exact H
  clear H
  have H := H1
  clear H1
  by_cases c4 : a0 = 37
  ·
   rw [if_pos c4] at H
   have c4b0 : (a0 == 37) = true := beq_iff_eq.mpr c4
   have c4b1 : (a0 != 37) = false := bne_eq_false_iff_eq.mpr c4
   clear c4
   replace H := Option.bind_eq_some_iff.mp H
   obtain ⟨t102, A50, H⟩ := H
   replace H : (some t102) = some r := H
   have A5 := Aside0.mk A50
   clear A50
   obtain rfl := Option.some.inj H
   go_enter Tryd.func49, Tryd.ntmps49
   go_wp2_with (first | ((with_reducible refine gate_callee (f := 47) rfl ?_); refine goesL_ (some 4) rfl rfl Tryd.func47 (by kernel_rfl) rfl #[.int .u8 a0] rfl (by (try simp only [List.map_toArray, List.map_cons, List.map_nil]); first | done | rfl | (simp only [List.length_drop, List.length_take]; rfl)) ?_; (with_reducible refine (lex_start.calls a0 true _ A2.out).mono ?_); rintro e w' ⟨rfl, ⟨nd, rfl⟩⟩; refine ⟨_, rfl, ?_⟩) | (go_at_call 63; (with_reducible refine (lex_digit.calls a0 t102 _ A5.out).mono ?_); rintro e w' ⟨rfl, ⟨nd, rfl⟩⟩))
   go_ret
   exact ⟨by first | rfl | (simp; done) | (simp [*]; done), by repeat (first | exact Drawn0.refl _ | apply Drawn0.step)⟩
  ·
   rw [if_neg c4] at H
   have c4b0 : (a0 == 37) = false := beq_eq_false_iff_ne.mpr c4
   have c4b1 : (a0 != 37) = true := bne_iff_ne.mpr c4
   obtain rfl := Option.some.inj H
   go_enter Tryd.func49, Tryd.ntmps49
   go_wp2_with (first | ((with_reducible refine gate_callee (f := 47) rfl ?_); refine goesL_ (some 4) rfl rfl Tryd.func47 (by kernel_rfl) rfl #[.int .u8 a0] rfl (by (try simp only [List.map_toArray, List.map_cons, List.map_nil]); first | done | rfl | (simp only [List.length_drop, List.length_take]; rfl)) ?_; (with_reducible refine (lex_start.calls a0 true _ A2.out).mono ?_); rintro e w' ⟨rfl, ⟨nd, rfl⟩⟩; refine ⟨_, rfl, ?_⟩))
   go_ret
   exact ⟨by first | rfl | (simp; done) | (simp [*]; done), by repeat (first | exact Drawn0.refl _ | apply Drawn0.step)⟩
 ·
  replace c3 := Bool.eq_false_iff.mpr c3
  subst c3
  have H1 : ((lex_digit.f a0).bind fun t103 => (some t103)) = some r := by rw [if_neg (show ¬ (false = true) by decide)] at H; exact H
  clear H
  have H := H1
  clear H1
  replace H := Option.bind_eq_some_iff.mp H
  obtain ⟨t103, A60, H⟩ := H
  replace H : (some t103) = some r := H
  have A6 := Aside0.mk A60
  clear A60
  obtain rfl := Option.some.inj H
  go_enter Tryd.func49, Tryd.ntmps49
  go_wp2_with (first | ((with_reducible refine gate_callee (f := 47) rfl ?_); refine goesL_ (some 4) rfl rfl Tryd.func47 (by kernel_rfl) rfl #[.int .u8 a0] rfl (by (try simp only [List.map_toArray, List.map_cons, List.map_nil]); first | done | rfl | (simp only [List.length_drop, List.length_take]; rfl)) ?_; (with_reducible refine (lex_start.calls a0 false _ A2.out).mono ?_); rintro e w' ⟨rfl, ⟨nd, rfl⟩⟩; refine ⟨_, rfl, ?_⟩) | (go_at_call 63; (with_reducible refine (lex_digit.calls a0 t103 _ A6.out).mono ?_); rintro e w' ⟨rfl, ⟨nd, rfl⟩⟩))
  go_ret
  exact ⟨by first | rfl | (simp; done) | (simp [*]; done), by repeat (first | exact Drawn0.refl _ | apply Drawn0.step)⟩

/-! ### lex_many_by_lex_inside: function 48 -/
def lex_many_by_lex_inside.l0 : Nat → ByteArray → Int → Option (Int)
 | 0, _, _ => none
 | k + 1, x0, x5 => if x5 < (x0.size : Int) then (if 0 ≤ x5 then ((lex_inside.f (bt x0 x5)).bind fun t104 => (if t104 = true then (lex_many_by_lex_inside.l0 k x0 (wrap64 (x5 + 1))) else (some x5))) else (none)) else (some x5)
def lex_many_by_lex_inside.f (k : Nat) (a0 : ByteArray)  : Option (Int) := lex_many_by_lex_inside.l0 k a0 0
theorem lex_many_by_lex_inside.mono_l : ∀ k, (∀ y0 y1, LeO (lex_many_by_lex_inside.l0 k y0 y1) (lex_many_by_lex_inside.l0 (k + 1) y0 y1))
 | 0 => fun _ _ r h => by simp [lex_many_by_lex_inside.l0] at h
 | k + 1 => by
  have ih0 := lex_many_by_lex_inside.mono_l k
  ·
   intro y0 y1
   unfold lex_many_by_lex_inside.l0
   repeat' first
   | (with_reducible exact ih0 _ _)
   | (with_reducible exact LeO.refl _)
   | (with_reducible exact LeO.none _)
   | (with_reducible refine LeO.ite ?_ ?_)
   | (with_reducible refine LeO.bind ?_ (fun _ => ?_))
   | exact ih0 _ _
   | exact LeO.none _
   | refine LeO.ite ?_ ?_
   | refine LeO.bind ?_ (fun _ => ?_)
theorem lex_many_by_lex_inside.mono : ∀ a0 k, LeO (lex_many_by_lex_inside.f k a0) (lex_many_by_lex_inside.f (k + 1) a0) := by
 intro a0 k
 have ih0 := lex_many_by_lex_inside.mono_l k
 unfold lex_many_by_lex_inside.f
 repeat' first
   | (with_reducible exact ih0 _ _)
   | (with_reducible exact LeO.refl _)
   | (with_reducible exact LeO.none _)
   | (with_reducible refine LeO.ite ?_ ?_)
   | (with_reducible refine LeO.bind ?_ (fun _ => ?_))
   | exact ih0 _ _
   | exact LeO.none _
   | refine LeO.ite ?_ ?_
   | refine LeO.bind ?_ (fun _ => ?_)
set_option maxHeartbeats 8000000 in
set_option maxRecDepth 100000 in
theorem lex_many_by_lex_inside.calls (k : Nat) (a0 : ByteArray)  (r : Int) (w : World) (h : lex_many_by_lex_inside.f k a0 = some r) :
  Calls Tryd.prog 48 #[.string a0, .func (.func 49) #[] #[]] w fun e w' => e = .returned (.int .i64 r) ∧ Drawn0 w w' := by
 have H : (lex_many_by_lex_inside.l0 k a0 0) = some r := h
 clear h
 have H' := Aside0.mk H
 clear H
 go_enter Tryd.func48, Tryd.ntmps48
 go_wp2
 go_loopg [5] k (fun kq v5 w' => ∃ (x5_1 : Int), v5 = .int .i64 x5_1 ∧ Aside0 (lex_many_by_lex_inside.l0 kq a0 x5_1 = some r) ∧ Aside0 (kq ≤ k) ∧ Drawn0 w w')
 case atStart => exact ⟨(0), (by first | rfl | (simp; done) | (simp [*]; done)), H', ⟨Nat.le_refl _⟩, by repeat (first | exact Drawn0.refl _ | apply Drawn0.step)⟩
 case round =>
  clear H'
  try clear p2
  obtain ⟨x5_1, rfl, HA, HK1, ⟨m1, rfl⟩⟩ := hrel
  cases gk with
  | zero => exact absurd HA.out (by simp [lex_many_by_lex_inside.l0])
  | succ k1 =>
   have H := HA.out
   clear HA
   simp only [lex_many_by_lex_inside.l0] at H
   by_cases c3 : x5_1 < (a0.size : Int)
   ·
    rw [if_pos c3] at H
    have c3b0 : decide (x5_1 < (a0.size : Int)) = true := decide_eq_true c3
    clear c3
    by_cases c4 : 0 ≤ x5_1
    ·
     rw [if_pos c4] at H
     have c4b0 : decide (0 ≤ x5_1) = true := decide_eq_true c4
     clear c4
     replace H := Option.bind_eq_some_iff.mp H
     obtain ⟨t104, A60, H⟩ := H
     replace H : (if t104 = true then (lex_many_by_lex_inside.l0 k1 a0 (wrap64 (x5_1 + 1))) else (some x5_1)) = some r := H
     have A6 := Aside0.mk A60
     clear A60
     by_cases c7 : t104 = true
     ·
      subst c7
      have H1 : (lex_many_by_lex_inside.l0 k1 a0 (wrap64 (x5_1 + 1))) = some r := by rw [if_pos rfl] at H; exact H
      clear H
      have H := H1
      clear H1
      have H' := Aside0.mk H
      clear H
      have p5 : 0 ≤ (x5_1 : Int) := of_decide_eq_true (by first | (with_reducible assumption) | assumption)
      have q5 : x5_1 < (a0.size : Int) := of_decide_eq_true (by first | (with_reducible assumption) | assumption)
      have hx5 := bt_at a0 x5_1
      replace p5 := eq_true p5
      replace q5 := eq_true q5
      go_wp2_with (first | (go_at_call 49; (with_reducible refine (lex_inside.calls (bt a0 x5_1) true _ A6.out).mono ?_); rintro e w' ⟨rfl, ⟨nd, rfl⟩⟩))
      go_roundg k1
      case measure => have := HK1.out; omega
      case rel => exact ⟨(wrap64 (x5_1 + 1)), (by first | rfl | (simp; done) | (simp [*]; done)), H', ⟨by have := HK1.out; omega⟩, by repeat (first | exact Drawn0.refl _ | apply Drawn0.step)⟩
     ·
      replace c7 := Bool.eq_false_iff.mpr c7
      subst c7
      have H1 : (some x5_1) = some r := by rw [if_neg (show ¬ (false = true) by decide)] at H; exact H
      clear H
      have H := H1
      clear H1
      obtain rfl := Option.some.inj H
      have p5 : 0 ≤ (x5_1 : Int) := of_decide_eq_true (by first | (with_reducible assumption) | assumption)
      have q5 : x5_1 < (a0.size : Int) := of_decide_eq_true (by first | (with_reducible assumption) | assumption)
      have hx5 := bt_at a0 x5_1
      replace p5 := eq_true p5
      replace q5 := eq_true q5
      go_wp2_with (first | (go_at_call 49; (with_reducible refine (lex_inside.calls (bt a0 x5_1) false _ A6.out).mono ?_); rintro e w' ⟨rfl, ⟨nd, rfl⟩⟩))
      go_ret
      exact ⟨by first | rfl | (simp; done) | (simp [*]; done), by repeat (first | exact Drawn0.refl _ | apply Drawn0.step)⟩
    ·
     rw [if_neg c4] at H
     exact absurd H (by simp)
   ·
    rw [if_neg c3] at H
    have c3b0 : decide (x5_1 < (a0.size : Int)) = false := decide_eq_false c3
    clear c3
    obtain rfl := Option.some.inj H
    go_wp2
    go_ret
    exact ⟨by first | rfl | (simp; done) | (simp [*]; done), by repeat (first | exact Drawn0.refl _ | apply Drawn0.step)⟩

/-! ### lex_name: function 50 -/
def lex_name.f (k : Nat) (a0 : ByteArray) : Option (Bool) := if (a0.size : Int) ≥ 1 then (if (a0.size : Int) ≤ 32 then (if 0 < (a0.size : Int) then ((lex_start.f (bt a0 0)).bind fun t105 => (if t105 = true then (if 1 ≤ (a0.size : Int) then ((lex_many_by_lex_inside.f k (a0.extract 1 a0.size)).bind fun t106 => (some (t106 == (wrap64 ((a0.size : Int) - 1))))) else (none)) else (some false))) else (none)) else (some false)) else (some false)
theorem lex_name.mono : ∀ a0 k, LeO (lex_name.f k a0) (lex_name.f (k + 1) a0) := by
 intro a0 k
 unfold lex_name.f
 repeat' first
   | (with_reducible exact lex_many_by_lex_inside.mono _ _)
   | (with_reducible exact LeO.refl _)
   | (with_reducible exact LeO.none _)
   | (with_reducible refine LeO.ite ?_ ?_)
   | (with_reducible refine LeO.bind ?_ (fun _ => ?_))
   | exact lex_many_by_lex_inside.mono _ _
   | exact LeO.none _
   | refine LeO.ite ?_ ?_
   | refine LeO.bind ?_ (fun _ => ?_)
set_option maxHeartbeats 8000000 in
set_option maxRecDepth 100000 in
theorem lex_name.calls (k : Nat) (a0 : ByteArray) (r : Bool) (w : World) (h : lex_name.f k a0 = some r) :
  Calls Tryd.prog 50 #[.string a0] w fun e w' => e = .returned (.bool r) ∧ Drawn0 w w' := by
 have H : (if (a0.size : Int) ≥ 1 then (if (a0.size : Int) ≤ 32 then (if 0 < (a0.size : Int) then ((lex_start.f (bt a0 0)).bind fun t105 => (if t105 = true then (if 1 ≤ (a0.size : Int) then ((lex_many_by_lex_inside.f k (a0.extract 1 a0.size)).bind fun t106 => (some (t106 == (wrap64 ((a0.size : Int) - 1))))) else (none)) else (some false))) else (none)) else (some false)) else (some false)) = some r := h
 clear h
 by_cases c2 : (a0.size : Int) ≥ 1
 ·
  rw [if_pos c2] at H
  have c2b0 : decide (1 ≤ (a0.size : Int)) = true := decide_eq_true c2
  have c2b1 : decide (1 ≤ a0.size) = true := decide_eq_true (by omega)
  clear c2
  by_cases c3 : (a0.size : Int) ≤ 32
  ·
   rw [if_pos c3] at H
   have c3b0 : decide ((a0.size : Int) ≤ 32) = true := decide_eq_true c3
   have c3b1 : decide (a0.size ≤ 32) = true := decide_eq_true (by omega)
   clear c3
   by_cases c4 : 0 < (a0.size : Int)
   ·
    rw [if_pos c4] at H
    have c4b0 : decide (0 < (a0.size : Int)) = true := decide_eq_true c4
    have c4b1 : decide (0 < a0.size) = true := decide_eq_true (by omega)
    clear c4
    replace H := Option.bind_eq_some_iff.mp H
    obtain ⟨t105, A60, H⟩ := H
    replace H : (if t105 = true then (if 1 ≤ (a0.size : Int) then ((lex_many_by_lex_inside.f k (a0.extract 1 a0.size)).bind fun t106 => (some (t106 == (wrap64 ((a0.size : Int) - 1))))) else (none)) else (some false)) = some r := H
    have A6 := Aside0.mk A60
    clear A60
    by_cases c7 : t105 = true
    ·
     subst c7
     have H1 : (if 1 ≤ (a0.size : Int) then ((lex_many_by_lex_inside.f k (a0.extract 1 a0.size)).bind fun t106 => (some (t106 == (wrap64 ((a0.size : Int) - 1))))) else (none)) = some r := by rw [if_pos rfl] at H; exact H
     clear H
     have H := H1
     clear H1
     by_cases c8 : 1 ≤ (a0.size : Int)
     ·
      rw [if_pos c8] at H
      have c8b0 := eq_true c8
      have c8b1 : decide (1 ≤ (a0.size : Int)) = true := decide_eq_true c8
      clear c8
      replace H := Option.bind_eq_some_iff.mp H
      obtain ⟨t106, A90, H⟩ := H
      replace H : (some (t106 == (wrap64 ((a0.size : Int) - 1)))) = some r := H
      have A9 := Aside0.mk A90
      clear A90
      obtain rfl := Option.some.inj H
      have p5 : 0 ≤ (0 : Int) := (by omega)
      have q5 : 0 < a0.size := (by have : (0 : Int) < (a0.size : Int) := of_decide_eq_true (by first | (with_reducible assumption) | assumption); omega)
      have hx5 : ∀ h : 0 < a0.size, ((a0[0]'h).toNat : Int) = bt a0 0 := bt_at a0 0
      clear p5
      have qi5 : (0 < (a0.size : Int)) = True := eq_true (of_decide_eq_true (by first | (with_reducible assumption) | assumption))
      replace q5 := eq_true q5
      go_enter Tryd.func50, Tryd.ntmps50
      go_wp2_with (first | (go_at_call 47; (with_reducible refine (lex_start.calls (bt a0 0) true _ A6.out).mono ?_); rintro e w' ⟨rfl, ⟨nd, rfl⟩⟩) | (go_at_call 48; (with_reducible refine (lex_many_by_lex_inside.calls k (a0.extract 1 a0.size)  t106 _ A9.out).mono ?_); rintro e w' ⟨rfl, ⟨nd, rfl⟩⟩))
      go_ret
      exact ⟨by first | rfl | (simp; done) | (simp [*]; done), by repeat (first | exact Drawn0.refl _ | apply Drawn0.step)⟩
     ·
      rw [if_neg c8] at H
      exact absurd H (by simp)
    ·
     replace c7 := Bool.eq_false_iff.mpr c7
     subst c7
     have H1 : (some false) = some r := by rw [if_neg (show ¬ (false = true) by decide)] at H; exact H
     clear H
     have H := H1
     clear H1
     obtain rfl := Option.some.inj H
     have p5 : 0 ≤ (0 : Int) := (by omega)
     have q5 : 0 < a0.size := (by have : (0 : Int) < (a0.size : Int) := of_decide_eq_true (by first | (with_reducible assumption) | assumption); omega)
     have hx5 : ∀ h : 0 < a0.size, ((a0[0]'h).toNat : Int) = bt a0 0 := bt_at a0 0
     clear p5
     have qi5 : (0 < (a0.size : Int)) = True := eq_true (of_decide_eq_true (by first | (with_reducible assumption) | assumption))
     replace q5 := eq_true q5
     go_enter Tryd.func50, Tryd.ntmps50
     go_wp2_with (first | (go_at_call 47; (with_reducible refine (lex_start.calls (bt a0 0) false _ A6.out).mono ?_); rintro e w' ⟨rfl, ⟨nd, rfl⟩⟩))
     go_ret
     exact ⟨by first | rfl | (simp; done) | (simp [*]; done), by repeat (first | exact Drawn0.refl _ | apply Drawn0.step)⟩
   ·
    rw [if_neg c4] at H
    exact absurd H (by simp)
  ·
   rw [if_neg c3] at H
   have c3b0 : decide ((a0.size : Int) ≤ 32) = false := decide_eq_false c3
   have c3b1 : decide (a0.size ≤ 32) = false := decide_eq_false (by omega)
   clear c3
   obtain rfl := Option.some.inj H
   go_enter Tryd.func50, Tryd.ntmps50
   go_wp2
   go_ret
   exact ⟨by first | rfl | (simp; done) | (simp [*]; done), by repeat (first | exact Drawn0.refl _ | apply Drawn0.step)⟩
 ·
  rw [if_neg c2] at H
  have c2b0 : decide (1 ≤ (a0.size : Int)) = false := decide_eq_false c2
  have c2b1 : decide (1 ≤ a0.size) = false := decide_eq_false (by omega)
  clear c2
  obtain rfl := Option.some.inj H
  go_enter Tryd.func50, Tryd.ntmps50
  go_wp2
  go_ret
  exact ⟨by first | rfl | (simp; done) | (simp [*]; done), by repeat (first | exact Drawn0.refl _ | apply Drawn0.step)⟩

/-! ### lex_many_by_lex_digit: function 48 -/
def lex_many_by_lex_digit.l0 : Nat → ByteArray → Int → Option (Int)
 | 0, _, _ => none
 | k + 1, x0, x5 => if x5 < (x0.size : Int) then (if 0 ≤ x5 then ((lex_digit.f (bt x0 x5)).bind fun t107 => (if t107 = true then (lex_many_by_lex_digit.l0 k x0 (wrap64 (x5 + 1))) else (some x5))) else (none)) else (some x5)
def lex_many_by_lex_digit.f (k : Nat) (a0 : ByteArray)  : Option (Int) := lex_many_by_lex_digit.l0 k a0 0
theorem lex_many_by_lex_digit.mono_l : ∀ k, (∀ y0 y1, LeO (lex_many_by_lex_digit.l0 k y0 y1) (lex_many_by_lex_digit.l0 (k + 1) y0 y1))
 | 0 => fun _ _ r h => by simp [lex_many_by_lex_digit.l0] at h
 | k + 1 => by
  have ih0 := lex_many_by_lex_digit.mono_l k
  ·
   intro y0 y1
   unfold lex_many_by_lex_digit.l0
   repeat' first
   | (with_reducible exact ih0 _ _)
   | (with_reducible exact LeO.refl _)
   | (with_reducible exact LeO.none _)
   | (with_reducible refine LeO.ite ?_ ?_)
   | (with_reducible refine LeO.bind ?_ (fun _ => ?_))
   | exact ih0 _ _
   | exact LeO.none _
   | refine LeO.ite ?_ ?_
   | refine LeO.bind ?_ (fun _ => ?_)
theorem lex_many_by_lex_digit.mono : ∀ a0 k, LeO (lex_many_by_lex_digit.f k a0) (lex_many_by_lex_digit.f (k + 1) a0) := by
 intro a0 k
 have ih0 := lex_many_by_lex_digit.mono_l k
 unfold lex_many_by_lex_digit.f
 repeat' first
   | (with_reducible exact ih0 _ _)
   | (with_reducible exact LeO.refl _)
   | (with_reducible exact LeO.none _)
   | (with_reducible refine LeO.ite ?_ ?_)
   | (with_reducible refine LeO.bind ?_ (fun _ => ?_))
   | exact ih0 _ _
   | exact LeO.none _
   | refine LeO.ite ?_ ?_
   | refine LeO.bind ?_ (fun _ => ?_)
set_option maxHeartbeats 8000000 in
set_option maxRecDepth 100000 in
theorem lex_many_by_lex_digit.calls (k : Nat) (a0 : ByteArray)  (r : Int) (w : World) (h : lex_many_by_lex_digit.f k a0 = some r) :
  Calls Tryd.prog 48 #[.string a0, .func (.func 63) #[] #[]] w fun e w' => e = .returned (.int .i64 r) ∧ Drawn0 w w' := by
 have H : (lex_many_by_lex_digit.l0 k a0 0) = some r := h
 clear h
 have H' := Aside0.mk H
 clear H
 go_enter Tryd.func48, Tryd.ntmps48
 go_wp2
 go_loopg [5] k (fun kq v5 w' => ∃ (x5_1 : Int), v5 = .int .i64 x5_1 ∧ Aside0 (lex_many_by_lex_digit.l0 kq a0 x5_1 = some r) ∧ Aside0 (kq ≤ k) ∧ Drawn0 w w')
 case atStart => exact ⟨(0), (by first | rfl | (simp; done) | (simp [*]; done)), H', ⟨Nat.le_refl _⟩, by repeat (first | exact Drawn0.refl _ | apply Drawn0.step)⟩
 case round =>
  clear H'
  try clear p2
  obtain ⟨x5_1, rfl, HA, HK1, ⟨m1, rfl⟩⟩ := hrel
  cases gk with
  | zero => exact absurd HA.out (by simp [lex_many_by_lex_digit.l0])
  | succ k1 =>
   have H := HA.out
   clear HA
   simp only [lex_many_by_lex_digit.l0] at H
   by_cases c3 : x5_1 < (a0.size : Int)
   ·
    rw [if_pos c3] at H
    have c3b0 : decide (x5_1 < (a0.size : Int)) = true := decide_eq_true c3
    clear c3
    by_cases c4 : 0 ≤ x5_1
    ·
     rw [if_pos c4] at H
     have c4b0 : decide (0 ≤ x5_1) = true := decide_eq_true c4
     clear c4
     replace H := Option.bind_eq_some_iff.mp H
     obtain ⟨t107, A60, H⟩ := H
     replace H : (if t107 = true then (lex_many_by_lex_digit.l0 k1 a0 (wrap64 (x5_1 + 1))) else (some x5_1)) = some r := H
     have A6 := Aside0.mk A60
     clear A60
     by_cases c7 : t107 = true
     ·
      subst c7
      have H1 : (lex_many_by_lex_digit.l0 k1 a0 (wrap64 (x5_1 + 1))) = some r := by rw [if_pos rfl] at H; exact H
      clear H
      have H := H1
      clear H1
      have H' := Aside0.mk H
      clear H
      have p5 : 0 ≤ (x5_1 : Int) := of_decide_eq_true (by first | (with_reducible assumption) | assumption)
      have q5 : x5_1 < (a0.size : Int) := of_decide_eq_true (by first | (with_reducible assumption) | assumption)
      have hx5 := bt_at a0 x5_1
      replace p5 := eq_true p5
      replace q5 := eq_true q5
      go_wp2_with (first | (go_at_call 63; (with_reducible refine (lex_digit.calls (bt a0 x5_1) true _ A6.out).mono ?_); rintro e w' ⟨rfl, ⟨nd, rfl⟩⟩))
      go_roundg k1
      case measure => have := HK1.out; omega
      case rel => exact ⟨(wrap64 (x5_1 + 1)), (by first | rfl | (simp; done) | (simp [*]; done)), H', ⟨by have := HK1.out; omega⟩, by repeat (first | exact Drawn0.refl _ | apply Drawn0.step)⟩
     ·
      replace c7 := Bool.eq_false_iff.mpr c7
      subst c7
      have H1 : (some x5_1) = some r := by rw [if_neg (show ¬ (false = true) by decide)] at H; exact H
      clear H
      have H := H1
      clear H1
      obtain rfl := Option.some.inj H
      have p5 : 0 ≤ (x5_1 : Int) := of_decide_eq_true (by first | (with_reducible assumption) | assumption)
      have q5 : x5_1 < (a0.size : Int) := of_decide_eq_true (by first | (with_reducible assumption) | assumption)
      have hx5 := bt_at a0 x5_1
      replace p5 := eq_true p5
      replace q5 := eq_true q5
      go_wp2_with (first | (go_at_call 63; (with_reducible refine (lex_digit.calls (bt a0 x5_1) false _ A6.out).mono ?_); rintro e w' ⟨rfl, ⟨nd, rfl⟩⟩))
      go_ret
      exact ⟨by first | rfl | (simp; done) | (simp [*]; done), by repeat (first | exact Drawn0.refl _ | apply Drawn0.step)⟩
    ·
     rw [if_neg c4] at H
     exact absurd H (by simp)
   ·
    rw [if_neg c3] at H
    have c3b0 : decide (x5_1 < (a0.size : Int)) = false := decide_eq_false c3
    clear c3
    obtain rfl := Option.some.inj H
    go_wp2
    go_ret
    exact ⟨by first | rfl | (simp; done) | (simp [*]; done), by repeat (first | exact Drawn0.refl _ | apply Drawn0.step)⟩

/-! ### lex_local: function 51 -/
def lex_local.f (k : Nat) (a0 : ByteArray) : Option (Bool) := (lex_many_by_lex_digit.f k a0).bind fun t108 => (if t108 ≥ 1 then (if t108 ≤ 9 then (if (a0.size : Int) = (wrap64 (t108 + 1)) then (if 0 ≤ t108 then (if t108 < (a0.size : Int) then (if (bt a0 t108) = 102 then (some true) else (some ((bt a0 t108) == 98))) else (none)) else (none)) else (some false)) else (some false)) else (some false))
theorem lex_local.mono : ∀ a0 k, LeO (lex_local.f k a0) (lex_local.f (k + 1) a0) := by
 intro a0 k
 unfold lex_local.f
 repeat' first
   | (with_reducible exact lex_many_by_lex_digit.mono _ _)
   | (with_reducible exact LeO.refl _)
   | (with_reducible exact LeO.none _)
   | (with_reducible refine LeO.ite ?_ ?_)
   | (with_reducible refine LeO.bind ?_ (fun _ => ?_))
   | exact lex_many_by_lex_digit.mono _ _
   | exact LeO.none _
   | refine LeO.ite ?_ ?_
   | refine LeO.bind ?_ (fun _ => ?_)
set_option maxHeartbeats 8000000 in
set_option maxRecDepth 100000 in
theorem lex_local.calls (k : Nat) (a0 : ByteArray) (r : Bool) (w : World) (h : lex_local.f k a0 = some r) :
  Calls Tryd.prog 51 #[.string a0] w fun e w' => e = .returned (.bool r) ∧ Drawn0 w w' := by
 have H : ((lex_many_by_lex_digit.f k a0).bind fun t108 => (if t108 ≥ 1 then (if t108 ≤ 9 then (if (a0.size : Int) = (wrap64 (t108 + 1)) then (if 0 ≤ t108 then (if t108 < (a0.size : Int) then (if (bt a0 t108) = 102 then (some true) else (some ((bt a0 t108) == 98))) else (none)) else (none)) else (some false)) else (some false)) else (some false))) = some r := h
 clear h
 replace H := Option.bind_eq_some_iff.mp H
 obtain ⟨t108, A20, H⟩ := H
 replace H : (if t108 ≥ 1 then (if t108 ≤ 9 then (if (a0.size : Int) = (wrap64 (t108 + 1)) then (if 0 ≤ t108 then (if t108 < (a0.size : Int) then (if (bt a0 t108) = 102 then (some true) else (some ((bt a0 t108) == 98))) else (none)) else (none)) else (some false)) else (some false)) else (some false)) = some r := H
 have A2 := Aside0.mk A20
 clear A20
 by_cases c3 : t108 ≥ 1
 ·
  rw [if_pos c3] at H
  have c3b0 : decide (1 ≤ t108) = true := decide_eq_true c3
  clear c3
  by_cases c4 : t108 ≤ 9
  ·
   rw [if_pos c4] at H
   have c4b0 : decide (t108 ≤ 9) = true := decide_eq_true c4
   clear c4
   by_cases c5 : (a0.size : Int) = (wrap64 (t108 + 1))
   ·
    rw [if_pos c5] at H
    have c5b0 : ((a0.size : Int) == (wrap64 (t108 + 1))) = true := beq_iff_eq.mpr c5
    have c5b1 : ((a0.size : Int) != (wrap64 (t108 + 1))) = false := bne_eq_false_iff_eq.mpr c5
    clear c5
    by_cases c6 : 0 ≤ t108
    ·
     rw [if_pos c6] at H
     have c6b0 : decide (0 ≤ t108) = true := decide_eq_true c6
     clear c6
     by_cases c7 : t108 < (a0.size : Int)
     ·
      rw [if_pos c7] at H
      have c7b0 : decide (t108 < (a0.size : Int)) = true := decide_eq_true c7
      clear c7
      by_cases c9 : (bt a0 t108) = 102
      ·
       rw [if_pos c9] at H
       have c9b0 : ((bt a0 t108) == 102) = true := beq_iff_eq.mpr c9
       have c9b1 : ((bt a0 t108) != 102) = false := bne_eq_false_iff_eq.mpr c9
       clear c9
       obtain rfl := Option.some.inj H
       go_enter Tryd.func51, Tryd.ntmps51
       go_wp2_with (first | ((with_reducible refine gate_callee (f := 48) rfl ?_); refine goesL_ (some 5) rfl rfl Tryd.func48 (by kernel_rfl) rfl #[.string a0, .func (.func 63) #[] #[]] rfl (by (try simp only [List.map_toArray, List.map_cons, List.map_nil]); first | done | rfl | (simp only [List.length_drop, List.length_take]; rfl)) ?_; (with_reducible refine (lex_many_by_lex_digit.calls k a0  t108 _ A2.out).mono ?_); rintro e w' ⟨rfl, ⟨nd, rfl⟩⟩; refine ⟨_, rfl, ?_⟩; have p8 : 0 ≤ (t108 : Int) := of_decide_eq_true (by first | (with_reducible assumption) | assumption); have q8 : t108 < (a0.size : Int) := of_decide_eq_true (by first | (with_reducible assumption) | assumption); have hx8 := bt_at a0 t108; replace p8 := eq_true p8; replace q8 := eq_true q8))
       go_ret
       exact ⟨by first | rfl | (simp; done) | (simp [*]; done), by repeat (first | exact Drawn0.refl _ | apply Drawn0.step)⟩
      ·
       rw [if_neg c9] at H
       have c9b0 : ((bt a0 t108) == 102) = false := beq_eq_false_iff_ne.mpr c9
       have c9b1 : ((bt a0 t108) != 102) = true := bne_iff_ne.mpr c9
       obtain rfl := Option.some.inj H
       go_enter Tryd.func51, Tryd.ntmps51
       go_wp2_with (first | ((with_reducible refine gate_callee (f := 48) rfl ?_); refine goesL_ (some 5) rfl rfl Tryd.func48 (by kernel_rfl) rfl #[.string a0, .func (.func 63) #[] #[]] rfl (by (try simp only [List.map_toArray, List.map_cons, List.map_nil]); first | done | rfl | (simp only [List.length_drop, List.length_take]; rfl)) ?_; (with_reducible refine (lex_many_by_lex_digit.calls k a0  t108 _ A2.out).mono ?_); rintro e w' ⟨rfl, ⟨nd, rfl⟩⟩; refine ⟨_, rfl, ?_⟩; have p8 : 0 ≤ (t108 : Int) := of_decide_eq_true (by first | (with_reducible assumption) | assumption); have q8 : t108 < (a0.size : Int) := of_decide_eq_true (by first | (with_reducible assumption) | assumption); have hx8 := bt_at a0 t108; replace p8 := eq_true p8; replace q8 := eq_true q8; have p10 : 0 ≤ (t108 : Int) := of_decide_eq_true (by first | (with_reducible assumption) | assumption); have q10 : t108 < (a0.size : Int) := of_decide_eq_true (by first | (with_reducible assumption) | assumption); have hx10 := bt_at a0 t108; replace p10 := eq_true p10; replace q10 := eq_true q10))
       go_ret
       exact ⟨by first | rfl | (simp; done) | (simp [*]; done), by repeat (first | exact Drawn0.refl _ | apply Drawn0.step)⟩
     ·
      rw [if_neg c7] at H
      exact absurd H (by simp)
    ·
     rw [if_neg c6] at H
     exact absurd H (by simp)
   ·
    rw [if_neg c5] at H
    have c5b0 : ((a0.size : Int) == (wrap64 (t108 + 1))) = false := beq_eq_false_iff_ne.mpr c5
    have c5b1 : ((a0.size : Int) != (wrap64 (t108 + 1))) = true := bne_iff_ne.mpr c5
    obtain rfl := Option.some.inj H
    go_enter Tryd.func51, Tryd.ntmps51
    go_wp2_with (first | ((with_reducible refine gate_callee (f := 48) rfl ?_); refine goesL_ (some 5) rfl rfl Tryd.func48 (by kernel_rfl) rfl #[.string a0, .func (.func 63) #[] #[]] rfl (by (try simp only [List.map_toArray, List.map_cons, List.map_nil]); first | done | rfl | (simp only [List.length_drop, List.length_take]; rfl)) ?_; (with_reducible refine (lex_many_by_lex_digit.calls k a0  t108 _ A2.out).mono ?_); rintro e w' ⟨rfl, ⟨nd, rfl⟩⟩; refine ⟨_, rfl, ?_⟩))
    go_ret
    exact ⟨by first | rfl | (simp; done) | (simp [*]; done), by repeat (first | exact Drawn0.refl _ | apply Drawn0.step)⟩
  ·
   rw [if_neg c4] at H
   have c4b0 : decide (t108 ≤ 9) = false := decide_eq_false c4
   clear c4
   obtain rfl := Option.some.inj H
   go_enter Tryd.func51, Tryd.ntmps51
   go_wp2_with (first | ((with_reducible refine gate_callee (f := 48) rfl ?_); refine goesL_ (some 5) rfl rfl Tryd.func48 (by kernel_rfl) rfl #[.string a0, .func (.func 63) #[] #[]] rfl (by (try simp only [List.map_toArray, List.map_cons, List.map_nil]); first | done | rfl | (simp only [List.length_drop, List.length_take]; rfl)) ?_; (with_reducible refine (lex_many_by_lex_digit.calls k a0  t108 _ A2.out).mono ?_); rintro e w' ⟨rfl, ⟨nd, rfl⟩⟩; refine ⟨_, rfl, ?_⟩))
   go_ret
   exact ⟨by first | rfl | (simp; done) | (simp [*]; done), by repeat (first | exact Drawn0.refl _ | apply Drawn0.step)⟩
 ·
  rw [if_neg c3] at H
  have c3b0 : decide (1 ≤ t108) = false := decide_eq_false c3
  clear c3
  obtain rfl := Option.some.inj H
  go_enter Tryd.func51, Tryd.ntmps51
  go_wp2_with (first | ((with_reducible refine gate_callee (f := 48) rfl ?_); refine goesL_ (some 5) rfl rfl Tryd.func48 (by kernel_rfl) rfl #[.string a0, .func (.func 63) #[] #[]] rfl (by (try simp only [List.map_toArray, List.map_cons, List.map_nil]); first | done | rfl | (simp only [List.length_drop, List.length_take]; rfl)) ?_; (with_reducible refine (lex_many_by_lex_digit.calls k a0  t108 _ A2.out).mono ?_); rintro e w' ⟨rfl, ⟨nd, rfl⟩⟩; refine ⟨_, rfl, ?_⟩))
  go_ret
  exact ⟨by first | rfl | (simp; done) | (simp [*]; done), by repeat (first | exact Drawn0.refl _ | apply Drawn0.step)⟩


/-! ### lex_shown: function 53 -/
def lex_shown.f (a0 : ByteArray) : Option (ByteArray × Bool) := if a0.size ≤ 100000000000 then some (LexW.shownF a0) else none
theorem lex_shown.calls (a0 : ByteArray) (r1 : ByteArray) (r2 : Bool) (w : World) (h : lex_shown.f a0 = some (r1, r2)) :
    Calls Tryd.prog 53 #[.string a0] w fun e w' => e = .returned (.tuple #[.string r1, .bool r2]) ∧ Below w.heap.size w w' := by
  unfold lex_shown.f at h
  by_cases c : a0.size ≤ 100000000000
  · rw [if_pos c] at h
    have := LexW.shown_calls a0 c w
    rw [Option.some.inj h] at this
    exact this
  · rw [if_neg c] at h
    cases h


/-! ### strconv_Itoa: function 54 -/
def strconv_Itoa.f (a0 : Int) : Option ByteArray := if -9223372036854775808 ≤ a0 ∧ a0 ≤ 9223372036854775807 then some ⟨(Lib.itoa a0).toArray⟩ else none
theorem below_grow {w w' : World} (os : Array Obj) (h : Below w.heap.size w w') : Below w.heap.size w (Sort.grow w' os) :=
  ⟨h.os, h.tape, h.output, by have := h.size; simp [Sort.grow]; omega, fun i hi => by rw [← h.block i hi]; show (w'.heap ++ os)[i]? = _; exact Array.getElem?_append_left (Nat.lt_of_lt_of_le hi h.size)⟩
theorem strconv_Itoa.calls (a0 : Int) (r : ByteArray) (w : World) (hT : Lib.TabIs Tryd.prog w "internal/strconv.uint64pow10" .u64 Lib.pow10Tab) (h : strconv_Itoa.f a0 = some r) :
    Calls Tryd.prog 54 #[.int .i64 a0] w fun e w' => e = .returned (.string r) ∧ Below w.heap.size w w' := by
  unfold strconv_Itoa.f at h
  by_cases c : -9223372036854775808 ≤ a0 ∧ a0 ≤ 9223372036854775807
  · rw [if_pos c] at h
    cases h
    refine (Tryd.strconv_Itoa a0 c.1 c.2 w hT).mono ?_
    rintro e w' ⟨rfl, k, os, rfl⟩
    exact ⟨rfl, below_grow os (pw_below_drewN (Below.refl _ _) k)⟩
  · rw [if_neg c] at h
    cases h


/-! ### strconv_FormatUint: function 55 -/
def strconv_FormatUint.f (a0 a1 : Int) : Option ByteArray := if 0 ≤ a0 ∧ a0 < 18446744073709551616 ∧ a1 = 16 then some ⟨(LexW.hexL a0.toNat).toArray⟩ else none
theorem strconv_FormatUint.calls (a0 a1 : Int) (r : ByteArray) (w : World) (hD : LexW.LexD w) (h : strconv_FormatUint.f a0 a1 = some r) :
    Calls Tryd.prog 55 #[.int .u64 a0, .int .i64 a1] w fun e w' => e = .returned (.string r) ∧ Below w.heap.size w w' := by
  unfold strconv_FormatUint.f at h
  by_cases c : 0 ≤ a0 ∧ a0 < 18446744073709551616 ∧ a1 = 16
  · rw [if_pos c] at h
    obtain ⟨c0, c1, rfl⟩ := c
    obtain ⟨u, rfl⟩ := Int.eq_ofNat_of_zero_le c0
    rw [← Option.some.inj h]
    exact LexW.fu16 u (by omega) w hD
  · rw [if_neg c] at h
    cases h


/-! ### strings_Repeat: function 56 -/
def strings_Repeat.f (a0 : ByteArray) (a1 : Int) : Option ByteArray := if 0 ≤ a1 ∧ a1 ≤ 1000000 ∧ a0.size ≤ 1000000 then some ⟨(Lib.repeatL a0.data.toList a1.toNat).toArray⟩ else none
theorem strings_Repeat.calls (a0 : ByteArray) (a1 : Int) (r : ByteArray) (w : World) (h : strings_Repeat.f a0 a1 = some r) :
    Calls Tryd.prog 56 #[.string a0, .int .i64 a1] w fun e w' => e = .returned (.string r) ∧ Below w.heap.size w w' := by
  unfold strings_Repeat.f at h
  by_cases c : 0 ≤ a1 ∧ a1 ≤ 1000000 ∧ a0.size ≤ 1000000
  · rw [if_pos c] at h
    obtain ⟨c0, c1, c2⟩ := c
    obtain ⟨u, rfl⟩ := Int.eq_ofNat_of_zero_le c0
    rw [← Option.some.inj h]
    exact Tryd.strings_Repeat a0 u w (by omega) (by have := Nat.mul_le_mul c2 (show u ≤ 1000000 by omega); omega)
  · rw [if_neg c] at h
    cases h

end Go.Proofs.YtgihgmniijhfoaaDoor.P
