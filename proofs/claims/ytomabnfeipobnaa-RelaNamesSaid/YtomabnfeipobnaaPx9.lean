-- Written by pext.py, a program of this session, over the kit's print: a function's contract
import Derived.Test.YtomabnfeipobnaaPx0
import Derived.Test.YtomabnfeipobnaaPx4
namespace Go.Proofs.Ytomabnfeipobnaa.P
open Go.RowKit Go.Proofs.YtomabnfeipobnaaW.PrintWords Go.Proofs.YtomabnfeipobnaaW.PrintLast Go.Proofs.YtomabnfeipobnaaW.PrintMore
attribute [local go_sem] max2_int min2_int max_two min_two max_three min_three max_four min_four   -- for this text's walks alone
set_option linter.unusedVariables false
set_option linter.unusedSimpArgs false

/-! ### rela_Field: function 55 -/
mutual
def rela_Field.j0 : Nat → Int → Bool → Option (Int × Int)
 | 0, _, _ => none
 | k + 1, x4, x5 => if x5 = true then (some (0, 0)) else (if x4 = 33 then (rela_Field.j1 k x4 (x4 == 33)) else (rela_Field.j1 k x4 (x4 == 37)))
def rela_Field.j1 : Nat → Int → Bool → Option (Int × Int)
 | 0, _, _ => none
 | k + 1, x4, x8 => if x8 = true then (some (1, 0)) else (if x4 = 34 then (rela_Field.j2 k x4 (x4 == 34)) else (if x4 = 38 then (rela_Field.j2 k x4 (x4 == 38)) else (if x4 = 44 then (rela_Field.j2 k x4 (x4 == 44)) else (rela_Field.j2 k x4 (x4 == 45)))))
def rela_Field.j2 : Nat → Int → Bool → Option (Int × Int)
 | 0, _, _ => none
 | k + 1, x4, x11 => if x11 = true then (some (2, 0)) else (if x4 = 2 then (rela_Field.j3 k x4 (x4 == 2)) else (if x4 = 36 then (rela_Field.j3 k x4 (x4 == 36)) else (if x4 = 40 then (rela_Field.j3 k x4 (x4 == 40)) else (rela_Field.j3 k x4 (x4 == 18)))))
def rela_Field.j3 : Nat → Int → Bool → Option (Int × Int)
 | 0, _, _ => none
 | k + 1, x4, x16 => if x16 = true then (some (8, 0)) else (if x4 = 1 then (some (4, 0)) else (if x4 = 16 then (some (4, 0)) else (if x4 = 17 then (some (4, 0)) else (if x4 = 23 then (some (4, 0)) else (if x4 = 24 then (some (4, 0)) else (if x4 = 25 then (some (4, 0)) else (if x4 = 26 then (some (4, 0)) else (if x4 = 27 then (some (4, 0)) else (if x4 = 28 then (some (4, 0)) else (if x4 = 35 then (some (4, 0)) else (if x4 = 39 then (some (4, 0)) else (some (0, 2)))))))))))))
end
def rela_Field.f (k : Nat) (a0 : Int) : Option (Int × Int) := if a0 = 43 then (rela_Field.j0 k a0 (a0 == 43)) else (rela_Field.j0 k a0 (a0 == 51))
theorem rela_Field.mono_l : ∀ k, (∀ y0 y1, LeO (rela_Field.j0 k y0 y1) (rela_Field.j0 (k + 1) y0 y1)) ∧ (∀ y0 y1, LeO (rela_Field.j1 k y0 y1) (rela_Field.j1 (k + 1) y0 y1)) ∧ (∀ y0 y1, LeO (rela_Field.j2 k y0 y1) (rela_Field.j2 (k + 1) y0 y1)) ∧ (∀ y0 y1, LeO (rela_Field.j3 k y0 y1) (rela_Field.j3 (k + 1) y0 y1))
 | 0 => ⟨fun _ _ r h => by simp [rela_Field.j0] at h, fun _ _ r h => by simp [rela_Field.j1] at h, fun _ _ r h => by simp [rela_Field.j2] at h, fun _ _ r h => by simp [rela_Field.j3] at h⟩
 | k + 1 => by
  obtain ⟨ih0, ih1, ih2, ih3⟩ := rela_Field.mono_l k
  refine ⟨?_, ?_, ?_, ?_⟩
  ·
   intro y0 y1
   unfold rela_Field.j0
   repeat' first
   | (with_reducible exact ih0 _ _)
   | (with_reducible exact ih1 _ _)
   | (with_reducible exact ih2 _ _)
   | (with_reducible exact ih3 _ _)
   | (with_reducible exact LeO.refl _)
   | (with_reducible exact LeO.none _)
   | (with_reducible refine LeO.ite ?_ ?_)
   | (with_reducible refine LeO.bind ?_ (fun _ => ?_))
   | exact ih0 _ _
   | exact ih1 _ _
   | exact ih2 _ _
   | exact ih3 _ _
   | exact LeO.none _
   | refine LeO.ite ?_ ?_
   | refine LeO.bind ?_ (fun _ => ?_)
  ·
   intro y0 y1
   unfold rela_Field.j1
   repeat' first
   | (with_reducible exact ih0 _ _)
   | (with_reducible exact ih1 _ _)
   | (with_reducible exact ih2 _ _)
   | (with_reducible exact ih3 _ _)
   | (with_reducible exact LeO.refl _)
   | (with_reducible exact LeO.none _)
   | (with_reducible refine LeO.ite ?_ ?_)
   | (with_reducible refine LeO.bind ?_ (fun _ => ?_))
   | exact ih0 _ _
   | exact ih1 _ _
   | exact ih2 _ _
   | exact ih3 _ _
   | exact LeO.none _
   | refine LeO.ite ?_ ?_
   | refine LeO.bind ?_ (fun _ => ?_)
  ·
   intro y0 y1
   unfold rela_Field.j2
   repeat' first
   | (with_reducible exact ih0 _ _)
   | (with_reducible exact ih1 _ _)
   | (with_reducible exact ih2 _ _)
   | (with_reducible exact ih3 _ _)
   | (with_reducible exact LeO.refl _)
   | (with_reducible exact LeO.none _)
   | (with_reducible refine LeO.ite ?_ ?_)
   | (with_reducible refine LeO.bind ?_ (fun _ => ?_))
   | exact ih0 _ _
   | exact ih1 _ _
   | exact ih2 _ _
   | exact ih3 _ _
   | exact LeO.none _
   | refine LeO.ite ?_ ?_
   | refine LeO.bind ?_ (fun _ => ?_)
  ·
   intro y0 y1
   unfold rela_Field.j3
   repeat' first
   | (with_reducible exact ih0 _ _)
   | (with_reducible exact ih1 _ _)
   | (with_reducible exact ih2 _ _)
   | (with_reducible exact ih3 _ _)
   | (with_reducible exact LeO.refl _)
   | (with_reducible exact LeO.none _)
   | (with_reducible refine LeO.ite ?_ ?_)
   | (with_reducible refine LeO.bind ?_ (fun _ => ?_))
   | exact ih0 _ _
   | exact ih1 _ _
   | exact ih2 _ _
   | exact ih3 _ _
   | exact LeO.none _
   | refine LeO.ite ?_ ?_
   | refine LeO.bind ?_ (fun _ => ?_)
theorem rela_Field.mono : ∀ a0 k, LeO (rela_Field.f k a0) (rela_Field.f (k + 1) a0) := by
 intro a0 k
 obtain ⟨ih0, ih1, ih2, ih3⟩ := rela_Field.mono_l k
 unfold rela_Field.f
 repeat' first
   | (with_reducible exact ih0 _ _)
   | (with_reducible exact ih1 _ _)
   | (with_reducible exact ih2 _ _)
   | (with_reducible exact ih3 _ _)
   | (with_reducible exact LeO.refl _)
   | (with_reducible exact LeO.none _)
   | (with_reducible refine LeO.ite ?_ ?_)
   | (with_reducible refine LeO.bind ?_ (fun _ => ?_))
   | exact ih0 _ _
   | exact ih1 _ _
   | exact ih2 _ _
   | exact ih3 _ _
   | exact LeO.none _
   | refine LeO.ite ?_ ?_
   | refine LeO.bind ?_ (fun _ => ?_)
set_option maxHeartbeats 8000000 in
set_option maxRecDepth 100000 in
theorem rela_Field.calls (k : Nat) (a0 : Int) (r1 : Int) (r2 : Int) (w : World) (h : rela_Field.f k a0 = some (r1, r2)) :
  Calls Try.prog 55 #[.int .u8 a0] w fun e w' => e = .returned (.tuple #[.int .i64 r1, .int .i64 r2]) ∧ Drawn0 w w' := by
 have H : (if a0 = 43 then (rela_Field.j0 k a0 (a0 == 43)) else (rela_Field.j0 k a0 (a0 == 51))) = some (r1, r2) := h
 clear h
 have HC2 := Aside0.mk H
 clear H
 go_enter Try.func55, Try.ntmps55
 go_upto_if 5 with (fail)
 go_cut [5] (fun v5 wc => ∃ (kq : Nat) (x5_1 : Bool), v5 = .bool x5_1 ∧ Aside0 (rela_Field.j0 kq a0 x5_1 = some (r1, r2)) ∧ Aside0 (kq ≤ k) ∧ Drawn0 w wc)
 case first =>
  have H := HC2.out
  clear HC2
  by_cases c3 : a0 = 43
  ·
   rw [if_pos c3] at H
   have c3b0 : (a0 == 43) = true := beq_iff_eq.mpr c3
   have c3b1 : (a0 != 43) = false := bne_eq_false_iff_eq.mpr c3
   clear c3
   (first | rw [c3b0] | (simp only [i64_w, i32_w]; rw [c3b0]) | skip)
   have H' := Aside0.mk H
   clear H
   go_wp2
   go_meet
   case rel => exact ⟨_, ((a0 == 43)), (by first | rfl | (simp; done) | (simp [*]; done)), H', ⟨by first | omega | exact Nat.le_refl _⟩, by repeat (first | exact Drawn0.refl _ | apply Drawn0.step)⟩
  ·
   rw [if_neg c3] at H
   have c3b0 : (a0 == 43) = false := beq_eq_false_iff_ne.mpr c3
   have c3b1 : (a0 != 43) = true := bne_iff_ne.mpr c3
   (first | rw [c3b0] | (simp only [i64_w, i32_w]; rw [c3b0]) | skip)
   have H' := Aside0.mk H
   clear H
   go_wp2
   go_meet
   case rel => exact ⟨_, ((a0 == 51)), (by first | rfl | (simp; done) | (simp [*]; done)), H', ⟨by first | omega | exact Nat.le_refl _⟩, by repeat (first | exact Drawn0.refl _ | apply Drawn0.step)⟩
 case rest =>
  clear HC2
  try clear p2
  try clear c3
  try clear c3b0
  try clear c3b1
  obtain ⟨kq, x5_1, rfl, HA, HJ1, ⟨mc1, rfl⟩⟩ := hcut
  cases kq with
  | zero => exact absurd HA.out (by simp [rela_Field.j0])
  | succ kj1 =>
   have H := HA.out
   clear HA
   simp only [rela_Field.j0] at H
   by_cases c4 : x5_1 = true
   ·
    subst c4
    have H1 : (some (0, 0)) = some (r1, r2) := by rw [if_pos rfl] at H; exact H
    clear H
    have H := H1
    clear H1
    simp only [Option.some.injEq, Prod.mk.injEq] at H
    obtain ⟨rfl, rfl⟩ := H
    go_wp2
    go_ret2
    exact ⟨by first | rfl | (simp; done) | (simp [*]; done), by repeat (first | exact Drawn0.refl _ | apply Drawn0.step)⟩
   ·
    replace c4 := Bool.eq_false_iff.mpr c4
    subst c4
    have H1 : (if a0 = 33 then (rela_Field.j1 kj1 a0 (a0 == 33)) else (rela_Field.j1 kj1 a0 (a0 == 37))) = some (r1, r2) := by rw [if_neg (show ¬ (false = true) by decide)] at H; exact H
    clear H
    have H := H1
    clear H1
    have HC5 := Aside0.mk H
    clear H
    go_upto_if 8 with (fail)
    go_cut [8] (fun v8 wc => ∃ (kq : Nat) (x8_4 : Bool), v8 = .bool x8_4 ∧ Aside0 (rela_Field.j1 kq a0 x8_4 = some (r1, r2)) ∧ Aside0 (kq ≤ kj1) ∧ Drawn0 w wc)
    case first =>
     have H := HC5.out
     clear HC5
     by_cases c6 : a0 = 33
     ·
      rw [if_pos c6] at H
      have c6b0 : (a0 == 33) = true := beq_iff_eq.mpr c6
      have c6b1 : (a0 != 33) = false := bne_eq_false_iff_eq.mpr c6
      clear c6
      (first | rw [c6b0] | (simp only [i64_w, i32_w]; rw [c6b0]) | skip)
      have H' := Aside0.mk H
      clear H
      go_wp2
      go_meet
      case rel => exact ⟨_, ((a0 == 33)), (by first | rfl | (simp; done) | (simp [*]; done)), H', ⟨by have := HJ1.out; first | omega | exact Nat.le_refl _⟩, by repeat (first | exact Drawn0.refl _ | apply Drawn0.step)⟩
     ·
      rw [if_neg c6] at H
      have c6b0 : (a0 == 33) = false := beq_eq_false_iff_ne.mpr c6
      have c6b1 : (a0 != 33) = true := bne_iff_ne.mpr c6
      (first | rw [c6b0] | (simp only [i64_w, i32_w]; rw [c6b0]) | skip)
      have H' := Aside0.mk H
      clear H
      go_wp2
      go_meet
      case rel => exact ⟨_, ((a0 == 37)), (by first | rfl | (simp; done) | (simp [*]; done)), H', ⟨by have := HJ1.out; first | omega | exact Nat.le_refl _⟩, by repeat (first | exact Drawn0.refl _ | apply Drawn0.step)⟩
    case rest =>
     clear HC5
     try clear c1
     try clear p2
     try clear c3
     try clear c3b0
     try clear c3b1
     try clear c4
     try clear c5
     try clear c6
     try clear c6b0
     try clear c6b1
     try clear p2
     obtain ⟨kq, x8_4, rfl, HA, HJ4, ⟨mc4, rfl⟩⟩ := hcut
     cases kq with
     | zero => exact absurd HA.out (by simp [rela_Field.j1])
     | succ kj4 =>
      have H := HA.out
      clear HA
      simp only [rela_Field.j1] at H
      by_cases c7 : x8_4 = true
      ·
       subst c7
       have H1 : (some (1, 0)) = some (r1, r2) := by rw [if_pos rfl] at H; exact H
       clear H
       have H := H1
       clear H1
       simp only [Option.some.injEq, Prod.mk.injEq] at H
       obtain ⟨rfl, rfl⟩ := H
       go_wp2
       go_ret2
       exact ⟨by first | rfl | (simp; done) | (simp [*]; done), by repeat (first | exact Drawn0.refl _ | apply Drawn0.step)⟩
      ·
       replace c7 := Bool.eq_false_iff.mpr c7
       subst c7
       have H1 : (if a0 = 34 then (rela_Field.j2 kj4 a0 (a0 == 34)) else (if a0 = 38 then (rela_Field.j2 kj4 a0 (a0 == 38)) else (if a0 = 44 then (rela_Field.j2 kj4 a0 (a0 == 44)) else (rela_Field.j2 kj4 a0 (a0 == 45))))) = some (r1, r2) := by rw [if_neg (show ¬ (false = true) by decide)] at H; exact H
       clear H
       have H := H1
       clear H1
       have HC8 := Aside0.mk H
       clear H
       go_upto_if 11 with (fail)
       go_cut [11] (fun v11 wc => ∃ (kq : Nat) (x11_7 : Bool), v11 = .bool x11_7 ∧ Aside0 (rela_Field.j2 kq a0 x11_7 = some (r1, r2)) ∧ Aside0 (kq ≤ kj4) ∧ Drawn0 w wc)
       case first =>
        have H := HC8.out
        clear HC8
        by_cases c9 : a0 = 34
        ·
         rw [if_pos c9] at H
         have c9b0 : (a0 == 34) = true := beq_iff_eq.mpr c9
         have c9b1 : (a0 != 34) = false := bne_eq_false_iff_eq.mpr c9
         clear c9
         (first | rw [c9b0] | (simp only [i64_w, i32_w]; rw [c9b0]) | skip)
         have H' := Aside0.mk H
         clear H
         go_wp2
         go_meet
         case rel => exact ⟨_, ((a0 == 34)), (by first | rfl | (simp; done) | (simp [*]; done)), H', ⟨by have := HJ1.out; have := HJ4.out; first | omega | exact Nat.le_refl _⟩, by repeat (first | exact Drawn0.refl _ | apply Drawn0.step)⟩
        ·
         rw [if_neg c9] at H
         have c9b0 : (a0 == 34) = false := beq_eq_false_iff_ne.mpr c9
         have c9b1 : (a0 != 34) = true := bne_iff_ne.mpr c9
         (first | rw [c9b0] | (simp only [i64_w, i32_w]; rw [c9b0]) | skip)
         by_cases c10 : a0 = 38
         ·
          rw [if_pos c10] at H
          have c10b0 : (a0 == 38) = true := beq_iff_eq.mpr c10
          have c10b1 : (a0 != 38) = false := bne_eq_false_iff_eq.mpr c10
          clear c10
          have H' := Aside0.mk H
          clear H
          go_wp2
          go_meet
          case rel => exact ⟨_, ((a0 == 38)), (by first | rfl | (simp; done) | (simp [*]; done)), H', ⟨by have := HJ1.out; have := HJ4.out; first | omega | exact Nat.le_refl _⟩, by repeat (first | exact Drawn0.refl _ | apply Drawn0.step)⟩
         ·
          rw [if_neg c10] at H
          have c10b0 : (a0 == 38) = false := beq_eq_false_iff_ne.mpr c10
          have c10b1 : (a0 != 38) = true := bne_iff_ne.mpr c10
          by_cases c11 : a0 = 44
          ·
           rw [if_pos c11] at H
           have c11b0 : (a0 == 44) = true := beq_iff_eq.mpr c11
           have c11b1 : (a0 != 44) = false := bne_eq_false_iff_eq.mpr c11
           clear c11
           have H' := Aside0.mk H
           clear H
           go_wp2
           go_meet
           case rel => exact ⟨_, ((a0 == 44)), (by first | rfl | (simp; done) | (simp [*]; done)), H', ⟨by have := HJ1.out; have := HJ4.out; first | omega | exact Nat.le_refl _⟩, by repeat (first | exact Drawn0.refl _ | apply Drawn0.step)⟩
          ·
           rw [if_neg c11] at H
           have c11b0 : (a0 == 44) = false := beq_eq_false_iff_ne.mpr c11
           have c11b1 : (a0 != 44) = true := bne_iff_ne.mpr c11
           have H' := Aside0.mk H
           clear H
           go_wp2
           go_meet
           case rel => exact ⟨_, ((a0 == 45)), (by first | rfl | (simp; done) | (simp [*]; done)), H', ⟨by have := HJ1.out; have := HJ4.out; first | omega | exact Nat.le_refl _⟩, by repeat (first | exact Drawn0.refl _ | apply Drawn0.step)⟩
       case rest =>
        clear HC8
        try clear c1
        try clear p2
        try clear c3
        try clear c3b0
        try clear c3b1
        try clear c4
        try clear c5
        try clear c6
        try clear c6b0
        try clear c6b1
        try clear c7
        try clear c9
        try clear c9b0
        try clear c9b1
        try clear c10
        try clear c10b0
        try clear c10b1
        try clear c11
        try clear c11b0
        try clear c11b1
        try clear p2
        obtain ⟨kq, x11_7, rfl, HA, HJ7, ⟨mc7, rfl⟩⟩ := hcut
        cases kq with
        | zero => exact absurd HA.out (by simp [rela_Field.j2])
        | succ kj7 =>
         have H := HA.out
         clear HA
         simp only [rela_Field.j2] at H
         by_cases c12 : x11_7 = true
         ·
          subst c12
          have H1 : (some (2, 0)) = some (r1, r2) := by rw [if_pos rfl] at H; exact H
          clear H
          have H := H1
          clear H1
          simp only [Option.some.injEq, Prod.mk.injEq] at H
          obtain ⟨rfl, rfl⟩ := H
          go_wp2
          go_ret2
          exact ⟨by first | rfl | (simp; done) | (simp [*]; done), by repeat (first | exact Drawn0.refl _ | apply Drawn0.step)⟩
         ·
          replace c12 := Bool.eq_false_iff.mpr c12
          subst c12
          have H1 : (if a0 = 2 then (rela_Field.j3 kj7 a0 (a0 == 2)) else (if a0 = 36 then (rela_Field.j3 kj7 a0 (a0 == 36)) else (if a0 = 40 then (rela_Field.j3 kj7 a0 (a0 == 40)) else (rela_Field.j3 kj7 a0 (a0 == 18))))) = some (r1, r2) := by rw [if_neg (show ¬ (false = true) by decide)] at H; exact H
          clear H
          have H := H1
          clear H1
          have HC13 := Aside0.mk H
          clear H
          go_upto_if 16 with (fail)
          go_cut [16] (fun v16 wc => ∃ (kq : Nat) (x16_12 : Bool), v16 = .bool x16_12 ∧ Aside0 (rela_Field.j3 kq a0 x16_12 = some (r1, r2)) ∧ Aside0 (kq ≤ kj7) ∧ Drawn0 w wc)
          case first =>
           have H := HC13.out
           clear HC13
           by_cases c14 : a0 = 2
           ·
            rw [if_pos c14] at H
            have c14b0 : (a0 == 2) = true := beq_iff_eq.mpr c14
            have c14b1 : (a0 != 2) = false := bne_eq_false_iff_eq.mpr c14
            clear c14
            (first | rw [c14b0] | (simp only [i64_w, i32_w]; rw [c14b0]) | skip)
            have H' := Aside0.mk H
            clear H
            go_wp2
            go_meet
            case rel => exact ⟨_, ((a0 == 2)), (by first | rfl | (simp; done) | (simp [*]; done)), H', ⟨by have := HJ1.out; have := HJ4.out; have := HJ7.out; first | omega | exact Nat.le_refl _⟩, by repeat (first | exact Drawn0.refl _ | apply Drawn0.step)⟩
           ·
            rw [if_neg c14] at H
            have c14b0 : (a0 == 2) = false := beq_eq_false_iff_ne.mpr c14
            have c14b1 : (a0 != 2) = true := bne_iff_ne.mpr c14
            (first | rw [c14b0] | (simp only [i64_w, i32_w]; rw [c14b0]) | skip)
            by_cases c15 : a0 = 36
            ·
             rw [if_pos c15] at H
             have c15b0 : (a0 == 36) = true := beq_iff_eq.mpr c15
             have c15b1 : (a0 != 36) = false := bne_eq_false_iff_eq.mpr c15
             clear c15
             have H' := Aside0.mk H
             clear H
             go_wp2
             go_meet
             case rel => exact ⟨_, ((a0 == 36)), (by first | rfl | (simp; done) | (simp [*]; done)), H', ⟨by have := HJ1.out; have := HJ4.out; have := HJ7.out; first | omega | exact Nat.le_refl _⟩, by repeat (first | exact Drawn0.refl _ | apply Drawn0.step)⟩
            ·
             rw [if_neg c15] at H
             have c15b0 : (a0 == 36) = false := beq_eq_false_iff_ne.mpr c15
             have c15b1 : (a0 != 36) = true := bne_iff_ne.mpr c15
             by_cases c16 : a0 = 40
             ·
              rw [if_pos c16] at H
              have c16b0 : (a0 == 40) = true := beq_iff_eq.mpr c16
              have c16b1 : (a0 != 40) = false := bne_eq_false_iff_eq.mpr c16
              clear c16
              have H' := Aside0.mk H
              clear H
              go_wp2
              go_meet
              case rel => exact ⟨_, ((a0 == 40)), (by first | rfl | (simp; done) | (simp [*]; done)), H', ⟨by have := HJ1.out; have := HJ4.out; have := HJ7.out; first | omega | exact Nat.le_refl _⟩, by repeat (first | exact Drawn0.refl _ | apply Drawn0.step)⟩
             ·
              rw [if_neg c16] at H
              have c16b0 : (a0 == 40) = false := beq_eq_false_iff_ne.mpr c16
              have c16b1 : (a0 != 40) = true := bne_iff_ne.mpr c16
              have H' := Aside0.mk H
              clear H
              go_wp2
              go_meet
              case rel => exact ⟨_, ((a0 == 18)), (by first | rfl | (simp; done) | (simp [*]; done)), H', ⟨by have := HJ1.out; have := HJ4.out; have := HJ7.out; first | omega | exact Nat.le_refl _⟩, by repeat (first | exact Drawn0.refl _ | apply Drawn0.step)⟩
          case rest =>
           clear HC13
           try clear c1
           try clear p2
           try clear c3
           try clear c3b0
           try clear c3b1
           try clear c4
           try clear c5
           try clear c6
           try clear c6b0
           try clear c6b1
           try clear c7
           try clear c9
           try clear c9b0
           try clear c9b1
           try clear c10
           try clear c10b0
           try clear c10b1
           try clear c11
           try clear c11b0
           try clear c11b1
           try clear c12
           try clear c14
           try clear c14b0
           try clear c14b1
           try clear c15
           try clear c15b0
           try clear c15b1
           try clear c16
           try clear c16b0
           try clear c16b1
           try clear p2
           obtain ⟨kq, x16_12, rfl, HA, HJ12, ⟨mc12, rfl⟩⟩ := hcut
           cases kq with
           | zero => exact absurd HA.out (by simp [rela_Field.j3])
           | succ kj12 =>
            have H := HA.out
            clear HA
            simp only [rela_Field.j3] at H
            by_cases c17 : x16_12 = true
            ·
             subst c17
             have H1 : (some (8, 0)) = some (r1, r2) := by rw [if_pos rfl] at H; exact H
             clear H
             have H := H1
             clear H1
             simp only [Option.some.injEq, Prod.mk.injEq] at H
             obtain ⟨rfl, rfl⟩ := H
             go_wp2
             go_ret2
             exact ⟨by first | rfl | (simp; done) | (simp [*]; done), by repeat (first | exact Drawn0.refl _ | apply Drawn0.step)⟩
            ·
             replace c17 := Bool.eq_false_iff.mpr c17
             subst c17
             have H1 : (if a0 = 1 then (some (4, 0)) else (if a0 = 16 then (some (4, 0)) else (if a0 = 17 then (some (4, 0)) else (if a0 = 23 then (some (4, 0)) else (if a0 = 24 then (some (4, 0)) else (if a0 = 25 then (some (4, 0)) else (if a0 = 26 then (some (4, 0)) else (if a0 = 27 then (some (4, 0)) else (if a0 = 28 then (some (4, 0)) else (if a0 = 35 then (some (4, 0)) else (if a0 = 39 then (some (4, 0)) else (some (0, 2))))))))))))) = some (r1, r2) := by rw [if_neg (show ¬ (false = true) by decide)] at H; exact H
             clear H
             have H := H1
             clear H1
             by_cases c18 : a0 = 1
             ·
              rw [if_pos c18] at H
              have c18b0 : (a0 == 1) = true := beq_iff_eq.mpr c18
              have c18b1 : (a0 != 1) = false := bne_eq_false_iff_eq.mpr c18
              clear c18
              simp only [Option.some.injEq, Prod.mk.injEq] at H
              obtain ⟨rfl, rfl⟩ := H
              go_wp2
              go_ret2
              exact ⟨by first | rfl | (simp; done) | (simp [*]; done), by repeat (first | exact Drawn0.refl _ | apply Drawn0.step)⟩
             ·
              rw [if_neg c18] at H
              have c18b0 : (a0 == 1) = false := beq_eq_false_iff_ne.mpr c18
              have c18b1 : (a0 != 1) = true := bne_iff_ne.mpr c18
              by_cases c19 : a0 = 16
              ·
               rw [if_pos c19] at H
               have c19b0 : (a0 == 16) = true := beq_iff_eq.mpr c19
               have c19b1 : (a0 != 16) = false := bne_eq_false_iff_eq.mpr c19
               clear c19
               simp only [Option.some.injEq, Prod.mk.injEq] at H
               obtain ⟨rfl, rfl⟩ := H
               go_wp2
               go_ret2
               exact ⟨by first | rfl | (simp; done) | (simp [*]; done), by repeat (first | exact Drawn0.refl _ | apply Drawn0.step)⟩
              ·
               rw [if_neg c19] at H
               have c19b0 : (a0 == 16) = false := beq_eq_false_iff_ne.mpr c19
               have c19b1 : (a0 != 16) = true := bne_iff_ne.mpr c19
               by_cases c20 : a0 = 17
               ·
                rw [if_pos c20] at H
                have c20b0 : (a0 == 17) = true := beq_iff_eq.mpr c20
                have c20b1 : (a0 != 17) = false := bne_eq_false_iff_eq.mpr c20
                clear c20
                simp only [Option.some.injEq, Prod.mk.injEq] at H
                obtain ⟨rfl, rfl⟩ := H
                go_wp2
                go_ret2
                exact ⟨by first | rfl | (simp; done) | (simp [*]; done), by repeat (first | exact Drawn0.refl _ | apply Drawn0.step)⟩
               ·
                rw [if_neg c20] at H
                have c20b0 : (a0 == 17) = false := beq_eq_false_iff_ne.mpr c20
                have c20b1 : (a0 != 17) = true := bne_iff_ne.mpr c20
                by_cases c21 : a0 = 23
                ·
                 rw [if_pos c21] at H
                 have c21b0 : (a0 == 23) = true := beq_iff_eq.mpr c21
                 have c21b1 : (a0 != 23) = false := bne_eq_false_iff_eq.mpr c21
                 clear c21
                 simp only [Option.some.injEq, Prod.mk.injEq] at H
                 obtain ⟨rfl, rfl⟩ := H
                 go_wp2
                 go_ret2
                 exact ⟨by first | rfl | (simp; done) | (simp [*]; done), by repeat (first | exact Drawn0.refl _ | apply Drawn0.step)⟩
                ·
                 rw [if_neg c21] at H
                 have c21b0 : (a0 == 23) = false := beq_eq_false_iff_ne.mpr c21
                 have c21b1 : (a0 != 23) = true := bne_iff_ne.mpr c21
                 by_cases c22 : a0 = 24
                 ·
                  rw [if_pos c22] at H
                  have c22b0 : (a0 == 24) = true := beq_iff_eq.mpr c22
                  have c22b1 : (a0 != 24) = false := bne_eq_false_iff_eq.mpr c22
                  clear c22
                  simp only [Option.some.injEq, Prod.mk.injEq] at H
                  obtain ⟨rfl, rfl⟩ := H
                  go_wp2
                  go_ret2
                  exact ⟨by first | rfl | (simp; done) | (simp [*]; done), by repeat (first | exact Drawn0.refl _ | apply Drawn0.step)⟩
                 ·
                  rw [if_neg c22] at H
                  have c22b0 : (a0 == 24) = false := beq_eq_false_iff_ne.mpr c22
                  have c22b1 : (a0 != 24) = true := bne_iff_ne.mpr c22
                  by_cases c23 : a0 = 25
                  ·
                   rw [if_pos c23] at H
                   have c23b0 : (a0 == 25) = true := beq_iff_eq.mpr c23
                   have c23b1 : (a0 != 25) = false := bne_eq_false_iff_eq.mpr c23
                   clear c23
                   simp only [Option.some.injEq, Prod.mk.injEq] at H
                   obtain ⟨rfl, rfl⟩ := H
                   go_wp2
                   go_ret2
                   exact ⟨by first | rfl | (simp; done) | (simp [*]; done), by repeat (first | exact Drawn0.refl _ | apply Drawn0.step)⟩
                  ·
                   rw [if_neg c23] at H
                   have c23b0 : (a0 == 25) = false := beq_eq_false_iff_ne.mpr c23
                   have c23b1 : (a0 != 25) = true := bne_iff_ne.mpr c23
                   by_cases c24 : a0 = 26
                   ·
                    rw [if_pos c24] at H
                    have c24b0 : (a0 == 26) = true := beq_iff_eq.mpr c24
                    have c24b1 : (a0 != 26) = false := bne_eq_false_iff_eq.mpr c24
                    clear c24
                    simp only [Option.some.injEq, Prod.mk.injEq] at H
                    obtain ⟨rfl, rfl⟩ := H
                    go_wp2
                    go_ret2
                    exact ⟨by first | rfl | (simp; done) | (simp [*]; done), by repeat (first | exact Drawn0.refl _ | apply Drawn0.step)⟩
                   ·
                    rw [if_neg c24] at H
                    have c24b0 : (a0 == 26) = false := beq_eq_false_iff_ne.mpr c24
                    have c24b1 : (a0 != 26) = true := bne_iff_ne.mpr c24
                    by_cases c25 : a0 = 27
                    ·
                     rw [if_pos c25] at H
                     have c25b0 : (a0 == 27) = true := beq_iff_eq.mpr c25
                     have c25b1 : (a0 != 27) = false := bne_eq_false_iff_eq.mpr c25
                     clear c25
                     simp only [Option.some.injEq, Prod.mk.injEq] at H
                     obtain ⟨rfl, rfl⟩ := H
                     go_wp2
                     go_ret2
                     exact ⟨by first | rfl | (simp; done) | (simp [*]; done), by repeat (first | exact Drawn0.refl _ | apply Drawn0.step)⟩
                    ·
                     rw [if_neg c25] at H
                     have c25b0 : (a0 == 27) = false := beq_eq_false_iff_ne.mpr c25
                     have c25b1 : (a0 != 27) = true := bne_iff_ne.mpr c25
                     by_cases c26 : a0 = 28
                     ·
                      rw [if_pos c26] at H
                      have c26b0 : (a0 == 28) = true := beq_iff_eq.mpr c26
                      have c26b1 : (a0 != 28) = false := bne_eq_false_iff_eq.mpr c26
                      clear c26
                      simp only [Option.some.injEq, Prod.mk.injEq] at H
                      obtain ⟨rfl, rfl⟩ := H
                      go_wp2
                      go_ret2
                      exact ⟨by first | rfl | (simp; done) | (simp [*]; done), by repeat (first | exact Drawn0.refl _ | apply Drawn0.step)⟩
                     ·
                      rw [if_neg c26] at H
                      have c26b0 : (a0 == 28) = false := beq_eq_false_iff_ne.mpr c26
                      have c26b1 : (a0 != 28) = true := bne_iff_ne.mpr c26
                      by_cases c27 : a0 = 35
                      ·
                       rw [if_pos c27] at H
                       have c27b0 : (a0 == 35) = true := beq_iff_eq.mpr c27
                       have c27b1 : (a0 != 35) = false := bne_eq_false_iff_eq.mpr c27
                       clear c27
                       simp only [Option.some.injEq, Prod.mk.injEq] at H
                       obtain ⟨rfl, rfl⟩ := H
                       go_wp2
                       go_ret2
                       exact ⟨by first | rfl | (simp; done) | (simp [*]; done), by repeat (first | exact Drawn0.refl _ | apply Drawn0.step)⟩
                      ·
                       rw [if_neg c27] at H
                       have c27b0 : (a0 == 35) = false := beq_eq_false_iff_ne.mpr c27
                       have c27b1 : (a0 != 35) = true := bne_iff_ne.mpr c27
                       by_cases c28 : a0 = 39
                       ·
                        rw [if_pos c28] at H
                        have c28b0 : (a0 == 39) = true := beq_iff_eq.mpr c28
                        have c28b1 : (a0 != 39) = false := bne_eq_false_iff_eq.mpr c28
                        clear c28
                        simp only [Option.some.injEq, Prod.mk.injEq] at H
                        obtain ⟨rfl, rfl⟩ := H
                        go_wp2
                        go_ret2
                        exact ⟨by first | rfl | (simp; done) | (simp [*]; done), by repeat (first | exact Drawn0.refl _ | apply Drawn0.step)⟩
                       ·
                        rw [if_neg c28] at H
                        have c28b0 : (a0 == 39) = false := beq_eq_false_iff_ne.mpr c28
                        have c28b1 : (a0 != 39) = true := bne_iff_ne.mpr c28
                        simp only [Option.some.injEq, Prod.mk.injEq] at H
                        obtain ⟨rfl, rfl⟩ := H
                        go_wp2
                        go_ret2
                        exact ⟨by first | rfl | (simp; done) | (simp [*]; done), by repeat (first | exact Drawn0.refl _ | apply Drawn0.step)⟩

/-! ### rela_set_has: function 112 -/
def rela_set_has.f (a0 : Int) (a1 : Int) : Option (Bool) := if a1 < 64 then (if 0 ≤ a1 then (some ((Go.bits .and .u64 (shr .u64 a0 a1) 1) == 1)) else (none)) else (some false)
set_option maxHeartbeats 8000000 in
set_option maxRecDepth 100000 in
theorem rela_set_has.calls (a0 : Int) (a1 : Int) (r : Bool) (w : World) (h : rela_set_has.f a0 a1 = some r) :
  Calls Try.prog 112 #[.int .u64 a0, .int .u8 a1] w fun e w' => e = .returned (.bool r) ∧ Drawn0 w w' := by
 have H : (if a1 < 64 then (if 0 ≤ a1 then (some ((Go.bits .and .u64 (shr .u64 a0 a1) 1) == 1)) else (none)) else (some false)) = some r := h
 clear h
 by_cases c3 : a1 < 64
 ·
  rw [if_pos c3] at H
  have c3b0 : decide (a1 < 64) = true := decide_eq_true c3
  clear c3
  by_cases c4 : 0 ≤ a1
  ·
   rw [if_pos c4] at H
   have c4b0 := eq_true c4
   have c4b1 : decide (0 ≤ a1) = true := decide_eq_true c4
   clear c4
   obtain ⟨ji5, hji5⟩ : ∃ j_ : Int, (shr .u64 a0 a1) = j_ := ⟨_, rfl⟩
   replace H : (some ((Go.bits .and .u64 (ji5) 1) == 1)) = some r := by first | (rw [hji5] at H; exact H) | (simp only [hji5] at H ⊢; exact H)
   have hji5_ : (a0 / 2 ^ min a1.toNat 64) = ji5 := hji5
   have hji5z : a1 ≤ 64 → (a0 / 2 ^ a1.toNat) = ji5 := shr_small hji5
   obtain rfl := Option.some.inj H
   go_enter Try.func112, Try.ntmps112
   go_wp2
   go_ret
   exact ⟨by first | rfl | (simp; done) | (simp only [← hji5] <;> (first | rfl | simp)) | (simp [*]; done), by repeat (first | exact Drawn0.refl _ | apply Drawn0.step)⟩
  ·
   rw [if_neg c4] at H
   exact absurd H (by simp)
 ·
  rw [if_neg c3] at H
  have c3b0 : decide (a1 < 64) = false := decide_eq_false c3
  clear c3
  obtain rfl := Option.some.inj H
  go_enter Try.func112, Try.ntmps112
  go_wp2
  go_ret
  exact ⟨by first | rfl | (simp; done) | (simp [*]; done), by repeat (first | exact Drawn0.refl _ | apply Drawn0.step)⟩

/-! ### rela_may: function 90 -/
mutual
def rela_may.j0 : Nat → Int → Int → Int → Int → Int → Int → Int → Int → Int → ByteArray → Int → List Int → Int → Option (Bool)
 | 0, _, _, _, _, _, _, _, _, _, _, _, _, _ => none
 | k + 1, x2, x7, x8, x9, x678000, x678001, x678002, x678003, x678004, x679000, x679001, x679002, x679003 => if x8 = 0 then (if x9 = 4 then (rela_may.j1 k x2 x9 true x678000 x678001 x678002 x678003 x678004) else (if x678001 < 0 then (rela_may.j1 k x2 x9 true x678000 x678001 x678002 x678003 x678004) else (if x678001 > (wrap64 ((x679002.length : Int) - x7)) then (rela_may.j1 k x2 x9 true x678000 x678001 x678002 x678003 x678004) else (if x678004 < (-2147483648) then (rela_may.j1 k x2 x9 true x678000 x678001 x678002 x678003 x678004) else (rela_may.j1 k x2 x9 (decide (x678004 > 4294967295)) x678000 x678001 x678002 x678003 x678004))))) else (rela_may.j1 k x2 x9 true x678000 x678001 x678002 x678003 x678004)
def rela_may.j1 : Nat → Int → Int → Bool → Int → Int → Int → Int → Int → Option (Bool)
 | 0, _, _, _, _, _, _, _, _ => none
 | k + 1, x2, x9, x60, x678000, x678001, x678002, x678003, x678004 => if x60 = true then (some false) else ((rela_set_has.f 2190433320966 x678002).bind fun t683 => (if t683 = true then (rela_may.j2 k x2 false x678000 x678001 x678002 x678003 x678004) else (if x9 = 1 then (rela_may.j2 k x2 ((Go.bits .and .i64 x678001 1) == 1) x678000 x678001 x678002 x678003 x678004) else (rela_may.j2 k x2 true x678000 x678001 x678002 x678003 x678004))))
def rela_may.j2 : Nat → Int → Bool → Int → Int → Int → Int → Int → Option (Bool)
 | 0, _, _, _, _, _, _, _ => none
 | k + 1, x2, x74, x678000, x678001, x678002, x678003, x678004 => if x74 = true then (some false) else ((rela_set_has.f 2251799864016896 x678002).bind fun t684 => (if t684 = true then (if x678004 = 0 then (if x678002 = 43 then (if x678004 < 0 then (rela_may.j3 k x2 true x678000 x678001 x678002 x678003 x678004) else (if x678004 > 62 then (rela_may.j3 k x2 true x678000 x678001 x678002 x678003 x678004) else (rela_may.j3 k x2 ((Go.bits .and .i64 x678004 1) == 1) x678000 x678001 x678002 x678003 x678004))) else (rela_may.j3 k x2 false x678000 x678001 x678002 x678003 x678004)) else (rela_may.j3 k x2 true x678000 x678001 x678002 x678003 x678004)) else (if x678002 = 43 then (if x678004 < 0 then (rela_may.j3 k x2 true x678000 x678001 x678002 x678003 x678004) else (if x678004 > 62 then (rela_may.j3 k x2 true x678000 x678001 x678002 x678003 x678004) else (rela_may.j3 k x2 ((Go.bits .and .i64 x678004 1) == 1) x678000 x678001 x678002 x678003 x678004))) else (rela_may.j3 k x2 false x678000 x678001 x678002 x678003 x678004))))
def rela_may.j3 : Nat → Int → Bool → Int → Int → Int → Int → Int → Option (Bool)
 | 0, _, _, _, _, _, _, _ => none
 | k + 1, x2, x103, x678000, x678001, x678002, x678003, x678004 => if x103 = true then (some false) else ((rela_set_has.f 2260595906707456 x678002).bind fun t685 => (if t685 = true then (some (x678003 == (-1))) else (if x678003 ≥ 0 then (some (decide (x678003 < x2))) else (some false))))
end
def rela_may.f (k : Nat) (a0_0 : Int) (a0_1 : Int) (a0_2 : Int) (a0_3 : Int) (a0_4 : Int) (a1_0 : ByteArray) (a1_1 : Int) (l1_2 : List Int) (a1_3 : Int) (a2 : Int) : Option (Bool) := (rela_Field.f k a0_2).bind fun bt679 => ((sect_Kind.f a1_0).bind fun bt681 => (if a0_2 = 43 then (rela_may.j0 k a2 (mx bt679.1 a0_4) bt679.2 bt681.1 a0_0 a0_1 a0_2 a0_3 a0_4 a1_0 a1_1 l1_2 a1_3) else (rela_may.j0 k a2 bt679.1 bt679.2 bt681.1 a0_0 a0_1 a0_2 a0_3 a0_4 a1_0 a1_1 l1_2 a1_3)))
theorem rela_may.mono_l : ∀ k, (∀ y0 y1 y2 y3 y4 y5 y6 y7 y8 y9 y10 y11 y12, LeO (rela_may.j0 k y0 y1 y2 y3 y4 y5 y6 y7 y8 y9 y10 y11 y12) (rela_may.j0 (k + 1) y0 y1 y2 y3 y4 y5 y6 y7 y8 y9 y10 y11 y12)) ∧ (∀ y0 y1 y2 y3 y4 y5 y6 y7, LeO (rela_may.j1 k y0 y1 y2 y3 y4 y5 y6 y7) (rela_may.j1 (k + 1) y0 y1 y2 y3 y4 y5 y6 y7)) ∧ (∀ y0 y1 y2 y3 y4 y5 y6, LeO (rela_may.j2 k y0 y1 y2 y3 y4 y5 y6) (rela_may.j2 (k + 1) y0 y1 y2 y3 y4 y5 y6)) ∧ (∀ y0 y1 y2 y3 y4 y5 y6, LeO (rela_may.j3 k y0 y1 y2 y3 y4 y5 y6) (rela_may.j3 (k + 1) y0 y1 y2 y3 y4 y5 y6))
 | 0 => ⟨fun _ _ _ _ _ _ _ _ _ _ _ _ _ r h => by simp [rela_may.j0] at h, fun _ _ _ _ _ _ _ _ r h => by simp [rela_may.j1] at h, fun _ _ _ _ _ _ _ r h => by simp [rela_may.j2] at h, fun _ _ _ _ _ _ _ r h => by simp [rela_may.j3] at h⟩
 | k + 1 => by
  obtain ⟨ih0, ih1, ih2, ih3⟩ := rela_may.mono_l k
  refine ⟨?_, ?_, ?_, ?_⟩
  ·
   intro y0 y1 y2 y3 y4 y5 y6 y7 y8 y9 y10 y11 y12
   unfold rela_may.j0
   repeat' first
   | (with_reducible exact ih0 _ _ _ _ _ _ _ _ _ _ _ _ _)
   | (with_reducible exact ih1 _ _ _ _ _ _ _ _)
   | (with_reducible exact ih2 _ _ _ _ _ _ _)
   | (with_reducible exact ih3 _ _ _ _ _ _ _)
   | (with_reducible exact rela_Field.mono _ _)
   | (with_reducible exact LeO.refl _)
   | (with_reducible exact LeO.none _)
   | (with_reducible refine LeO.ite ?_ ?_)
   | (with_reducible refine LeO.bind ?_ (fun _ => ?_))
   | exact ih0 _ _ _ _ _ _ _ _ _ _ _ _ _
   | exact ih1 _ _ _ _ _ _ _ _
   | exact ih2 _ _ _ _ _ _ _
   | exact ih3 _ _ _ _ _ _ _
   | exact rela_Field.mono _ _
   | exact LeO.none _
   | refine LeO.ite ?_ ?_
   | refine LeO.bind ?_ (fun _ => ?_)
  ·
   intro y0 y1 y2 y3 y4 y5 y6 y7
   unfold rela_may.j1
   repeat' first
   | (with_reducible exact ih0 _ _ _ _ _ _ _ _ _ _ _ _ _)
   | (with_reducible exact ih1 _ _ _ _ _ _ _ _)
   | (with_reducible exact ih2 _ _ _ _ _ _ _)
   | (with_reducible exact ih3 _ _ _ _ _ _ _)
   | (with_reducible exact rela_Field.mono _ _)
   | (with_reducible exact LeO.refl _)
   | (with_reducible exact LeO.none _)
   | (with_reducible refine LeO.ite ?_ ?_)
   | (with_reducible refine LeO.bind ?_ (fun _ => ?_))
   | exact ih0 _ _ _ _ _ _ _ _ _ _ _ _ _
   | exact ih1 _ _ _ _ _ _ _ _
   | exact ih2 _ _ _ _ _ _ _
   | exact ih3 _ _ _ _ _ _ _
   | exact rela_Field.mono _ _
   | exact LeO.none _
   | refine LeO.ite ?_ ?_
   | refine LeO.bind ?_ (fun _ => ?_)
  ·
   intro y0 y1 y2 y3 y4 y5 y6
   unfold rela_may.j2
   repeat' first
   | (with_reducible exact ih0 _ _ _ _ _ _ _ _ _ _ _ _ _)
   | (with_reducible exact ih1 _ _ _ _ _ _ _ _)
   | (with_reducible exact ih2 _ _ _ _ _ _ _)
   | (with_reducible exact ih3 _ _ _ _ _ _ _)
   | (with_reducible exact rela_Field.mono _ _)
   | (with_reducible exact LeO.refl _)
   | (with_reducible exact LeO.none _)
   | (with_reducible refine LeO.ite ?_ ?_)
   | (with_reducible refine LeO.bind ?_ (fun _ => ?_))
   | exact ih0 _ _ _ _ _ _ _ _ _ _ _ _ _
   | exact ih1 _ _ _ _ _ _ _ _
   | exact ih2 _ _ _ _ _ _ _
   | exact ih3 _ _ _ _ _ _ _
   | exact rela_Field.mono _ _
   | exact LeO.none _
   | refine LeO.ite ?_ ?_
   | refine LeO.bind ?_ (fun _ => ?_)
  ·
   intro y0 y1 y2 y3 y4 y5 y6
   unfold rela_may.j3
   repeat' first
   | (with_reducible exact ih0 _ _ _ _ _ _ _ _ _ _ _ _ _)
   | (with_reducible exact ih1 _ _ _ _ _ _ _ _)
   | (with_reducible exact ih2 _ _ _ _ _ _ _)
   | (with_reducible exact ih3 _ _ _ _ _ _ _)
   | (with_reducible exact rela_Field.mono _ _)
   | (with_reducible exact LeO.refl _)
   | (with_reducible exact LeO.none _)
   | (with_reducible refine LeO.ite ?_ ?_)
   | (with_reducible refine LeO.bind ?_ (fun _ => ?_))
   | exact ih0 _ _ _ _ _ _ _ _ _ _ _ _ _
   | exact ih1 _ _ _ _ _ _ _ _
   | exact ih2 _ _ _ _ _ _ _
   | exact ih3 _ _ _ _ _ _ _
   | exact rela_Field.mono _ _
   | exact LeO.none _
   | refine LeO.ite ?_ ?_
   | refine LeO.bind ?_ (fun _ => ?_)
theorem rela_may.mono : ∀ a0 a1 a2 a3 a4 a5 a6 a7 a8 a9 k, LeO (rela_may.f k a0 a1 a2 a3 a4 a5 a6 a7 a8 a9) (rela_may.f (k + 1) a0 a1 a2 a3 a4 a5 a6 a7 a8 a9) := by
 intro a0 a1 a2 a3 a4 a5 a6 a7 a8 a9 k
 obtain ⟨ih0, ih1, ih2, ih3⟩ := rela_may.mono_l k
 unfold rela_may.f
 repeat' first
   | (with_reducible exact ih0 _ _ _ _ _ _ _ _ _ _ _ _ _)
   | (with_reducible exact ih1 _ _ _ _ _ _ _ _)
   | (with_reducible exact ih2 _ _ _ _ _ _ _)
   | (with_reducible exact ih3 _ _ _ _ _ _ _)
   | (with_reducible exact rela_Field.mono _ _)
   | (with_reducible exact LeO.refl _)
   | (with_reducible exact LeO.none _)
   | (with_reducible refine LeO.ite ?_ ?_)
   | (with_reducible refine LeO.bind ?_ (fun _ => ?_))
   | exact ih0 _ _ _ _ _ _ _ _ _ _ _ _ _
   | exact ih1 _ _ _ _ _ _ _ _
   | exact ih2 _ _ _ _ _ _ _
   | exact ih3 _ _ _ _ _ _ _
   | exact rela_Field.mono _ _
   | exact LeO.none _
   | refine LeO.ite ?_ ?_
   | refine LeO.bind ?_ (fun _ => ?_)
set_option maxHeartbeats 8000000 in
set_option maxRecDepth 100000 in
theorem rela_may.calls (k : Nat) (a0_0 : Int) (a0_1 : Int) (a0_2 : Int) (a0_3 : Int) (a0_4 : Int) (a1_0 : ByteArray) (a1_1 : Int) (A1_2 : Option Addr) (c1_2 : Nat) (l1_2 : List Int) (a1_3 : Int) (a2 : Int) (r : Bool) (w : World) (hr1_2 : Kd.C (Kd.int .u8) w A1_2 l1_2.length l1_2) (hc1_2 : l1_2.length ≤ c1_2) (h : rela_may.f k a0_0 a0_1 a0_2 a0_3 a0_4 a1_0 a1_1 l1_2 a1_3 a2 = some r) :
  Calls Try.prog 90 #[.agg #[.int .i64 a0_0, .int .i64 a0_1, .int .u8 a0_2, .int .i64 a0_3, .int .i64 a0_4], .agg #[.string a1_0, .int .i64 a1_1, .slice A1_2 l1_2.length c1_2, .int .i64 a1_3], .int .i64 a2] w fun e w' => e = .returned (.bool r) ∧ Below w.heap.size w w' := by
 have hu71 := Try.underlying71
 have hu36 := Try.underlying36
 have HR1_2 := Aside0.mk hr1_2
 have HC1_2 := Aside0.mk hc1_2
 clear hr1_2 hc1_2
 have HB := Aside0.mk (Below.refl w.heap.size w)
 have H : ((rela_Field.f k a0_2).bind fun bt679 => ((sect_Kind.f a1_0).bind fun bt681 => (if a0_2 = 43 then (rela_may.j0 k a2 (mx bt679.1 a0_4) bt679.2 bt681.1 a0_0 a0_1 a0_2 a0_3 a0_4 a1_0 a1_1 l1_2 a1_3) else (rela_may.j0 k a2 bt679.1 bt679.2 bt681.1 a0_0 a0_1 a0_2 a0_3 a0_4 a1_0 a1_1 l1_2 a1_3)))) = some r := h
 clear h
 replace H := Option.bind_eq_some_iff.mp H
 obtain ⟨⟨t679, t680⟩, A40, H⟩ := H
 replace H : ((sect_Kind.f a1_0).bind fun bt681 => (if a0_2 = 43 then (rela_may.j0 k a2 (mx t679 a0_4) t680 bt681.1 a0_0 a0_1 a0_2 a0_3 a0_4 a1_0 a1_1 l1_2 a1_3) else (rela_may.j0 k a2 t679 t680 bt681.1 a0_0 a0_1 a0_2 a0_3 a0_4 a1_0 a1_1 l1_2 a1_3))) = some r := H
 have A4 := Aside0.mk A40
 clear A40
 replace H := Option.bind_eq_some_iff.mp H
 obtain ⟨⟨t681, t682⟩, A50, H⟩ := H
 replace H : (if a0_2 = 43 then (rela_may.j0 k a2 (mx t679 a0_4) t680 t681 a0_0 a0_1 a0_2 a0_3 a0_4 a1_0 a1_1 l1_2 a1_3) else (rela_may.j0 k a2 t679 t680 t681 a0_0 a0_1 a0_2 a0_3 a0_4 a1_0 a1_1 l1_2 a1_3)) = some r := H
 have A5 := Aside0.mk A50
 clear A50
 have HC6 := Aside0.mk H
 clear H
 go_enter Try.func90, Try.ntmps90
 go_upto_if 25 with (first | ((with_reducible refine gate_dst (N := 3) rfl ?_); (try (refine gate_guard (by rfl) ?_; dsimp only)); refine box_event ?hg (N := 3) ?hd (cs := #[.int .i64 a0_0, .int .i64 a0_1, .int .u8 a0_2, .int .i64 a0_3, .int .i64 a0_4]) (t := 71) ?hr ?_; (case hd => rfl); (case hg => rfl); (case hr => first | (go_simp; done) | (go_simp; rfl)); intro gb677 hg w7 hbox hb; have n0_ := Aside0.mk (below_step (by repeat (first | (with_reducible first | exact HB.out | apply below_alloc | apply pw_below_drewN | apply below_drew1) | exact HB.out)) hb); have n1_ := Aside0.mk (hbox); have n2_ := Aside0.mk ((by rw [hg]; exact (below_size (by repeat (first | (with_reducible first | exact HB.out | apply below_alloc | apply pw_below_drewN | apply below_drew1) | exact HB.out))) : w.heap.size ≤ gb677)); have n3_ := Aside0.mk ((by rw [hg]; exact (below_size (by repeat (first | (with_reducible first | exact HB.out | apply below_alloc | apply pw_below_drewN | apply below_drew1) | exact HB.out))) : w.heap.size ≤ gb677)); clear HB; have HB := n0_; have BK677 := n1_; have GW677 := n2_; have GE677 := n3_; clear n0_ n1_ n2_ n3_; clear hb hbox hg) | ((with_reducible refine gate_dst (N := 4) rfl ?_); (try (refine gate_guard (by rfl) ?_; dsimp only)); refine box_event ?hg (N := 4) ?hd (cs := #[.string a1_0, .int .i64 a1_1, .slice A1_2 l1_2.length c1_2, .int .i64 a1_3]) (t := 36) ?hr ?_; (case hd => rfl); (case hg => rfl); (case hr => first | (go_simp; done) | (go_simp; rfl)); intro gb678 hg w8 hbox hb; have n0_ := Aside0.mk (blk_below (g := gb677) (o := .cells #[.int .i64 a0_0, .int .i64 a0_1, .int .u8 a0_2, .int .i64 a0_3, .int .i64 a0_4] 71 (0, 0)) (by (with_reducible repeat (first | refine blk_drewN ?_ _ | refine blk_drew ?_ | refine blk_alloc ?_ _)); exact BK677.out) hb); have n1_ := Aside0.mk (below_step (by repeat (first | (with_reducible first | exact HB.out | apply below_alloc | apply pw_below_drewN | apply below_drew1 | refine below_set ?_ GE677.out) | exact HB.out)) hb); have n2_ := Aside0.mk (hbox); have n3_ := Aside0.mk ((by rw [hg]; exact (below_size (by repeat (first | (with_reducible first | exact HB.out | apply below_alloc | apply pw_below_drewN | apply below_drew1 | refine below_set ?_ GE677.out) | exact HB.out))) : w.heap.size ≤ gb678)); have n4_ := Aside0.mk ((by rw [hg]; exact (below_size (by repeat (first | (with_reducible first | exact HB.out | apply below_alloc | apply pw_below_drewN | apply below_drew1 | refine below_set ?_ GE677.out) | exact HB.out))) : w.heap.size ≤ gb678)); have n5_ := Aside0.mk ((by rw [hg]; exact Nat.ne_of_lt (blk_lt (g := gb677) (o := .cells #[.int .i64 a0_0, .int .i64 a0_1, .int .u8 a0_2, .int .i64 a0_3, .int .i64 a0_4] 71 (0, 0)) (by (with_reducible repeat (first | refine blk_drewN ?_ _ | refine blk_drew ?_ | refine blk_alloc ?_ _)); exact BK677.out)) : gb677 ≠ gb678)); have n6_ := Aside0.mk ((by rw [hg]; exact Nat.ne_of_gt (blk_lt (g := gb677) (o := .cells #[.int .i64 a0_0, .int .i64 a0_1, .int .u8 a0_2, .int .i64 a0_3, .int .i64 a0_4] 71 (0, 0)) (by (with_reducible repeat (first | refine blk_drewN ?_ _ | refine blk_drew ?_ | refine blk_alloc ?_ _)); exact BK677.out)) : gb678 ≠ gb677)); clear BK677; clear HB; have BK677 := n0_; have HB := n1_; have BK678 := n2_; have GW678 := n3_; have GE678 := n4_; have NB677_678 := n5_; have NB678_677 := n6_; clear n0_ n1_ n2_ n3_ n4_ n5_ n6_; clear hb hbox hg; have hnb9 := NB677_678.out; have hnc9 := NB678_677.out; have hcz10_0 : w8.cell? ⟨gb677, 0, none⟩ = some (.int .i64 a0_0) := (blk_cell BK677.out 0).trans rfl; have hcz10_1 : w8.cell? ⟨gb677, 1, none⟩ = some (.int .i64 a0_1) := (blk_cell BK677.out 1).trans rfl; have hcz10_2 : w8.cell? ⟨gb677, 2, none⟩ = some (.int .u8 a0_2) := (blk_cell BK677.out 2).trans rfl; have hcz10_3 : w8.cell? ⟨gb677, 3, none⟩ = some (.int .i64 a0_3) := (blk_cell BK677.out 3).trans rfl; have hcz10_4 : w8.cell? ⟨gb677, 4, none⟩ = some (.int .i64 a0_4) := (blk_cell BK677.out 4).trans rfl; have hfz10_0 := blk_frozen BK677.out 0; have hfz10_1 := blk_frozen BK677.out 1; have hfz10_2 := blk_frozen BK677.out 2; have hfz10_3 := blk_frozen BK677.out 3; have hfz10_4 := blk_frozen BK677.out 4) | ((with_reducible refine gate_callee (f := 55) rfl ?_); refine goesL_ (some 14) rfl rfl Try.func55 (by kernel_rfl) rfl #[.int .u8 a0_2] rfl (by (try simp only [List.map_toArray, List.map_cons, List.map_nil]); first | done | rfl | (simp only [List.length_drop, List.length_take]; rfl)) ?_; (with_reducible refine (rela_Field.calls k a0_2 t679 t680 _ A4.out).mono ?_); rintro e w' ⟨rfl, ⟨nd, rfl⟩⟩; refine ⟨_, rfl, ?_⟩; have hcz11_0 : w8.cell? ⟨gb678, 0, none⟩ = some (.string a1_0) := (blk_cell BK678.out 0).trans rfl; have hcz11_1 : w8.cell? ⟨gb678, 1, none⟩ = some (.int .i64 a1_1) := (blk_cell BK678.out 1).trans rfl; have hcz11_2 : w8.cell? ⟨gb678, 2, none⟩ = some (.slice A1_2 l1_2.length c1_2) := (blk_cell BK678.out 2).trans rfl; have hcz11_3 : w8.cell? ⟨gb678, 3, none⟩ = some (.int .i64 a1_3) := (blk_cell BK678.out 3).trans rfl; have hfz11_0 := blk_frozen BK678.out 0; have hfz11_1 := blk_frozen BK678.out 1; have hfz11_2 := blk_frozen BK678.out 2; have hfz11_3 := blk_frozen BK678.out 3) | ((with_reducible refine gate_callee (f := 35) rfl ?_); refine goesL_ (some 20) rfl rfl Try.func35 (by kernel_rfl) rfl #[.string a1_0] rfl (by (try simp only [List.map_toArray, List.map_cons, List.map_nil]); first | done | rfl | (simp only [List.length_drop, List.length_take]; rfl)) ?_; (with_reducible refine (sect_Kind.calls a1_0 t681 t682 _ A5.out).mono ?_); rintro e w12 ⟨rfl, hb⟩; refine ⟨_, rfl, ?_⟩; have n0_ := Aside0.mk (blk_below (g := gb677) (o := .cells #[.int .i64 a0_0, .int .i64 a0_1, .int .u8 a0_2, .int .i64 a0_3, .int .i64 a0_4] 71 (0, 0)) (by (with_reducible repeat (first | refine blk_drewN ?_ _ | refine blk_drew ?_ | refine blk_alloc ?_ _)); exact BK677.out) hb); have n1_ := Aside0.mk (blk_below (g := gb678) (o := .cells #[.string a1_0, .int .i64 a1_1, .slice A1_2 l1_2.length c1_2, .int .i64 a1_3] 36 (0, 0)) (by (with_reducible repeat (first | refine blk_drewN ?_ _ | refine blk_drew ?_ | refine blk_alloc ?_ _)); exact BK678.out) hb); have n2_ := Aside0.mk (below_step (by repeat (first | (with_reducible first | exact HB.out | apply below_alloc | apply pw_below_drewN | apply below_drew1 | refine below_set ?_ GE677.out | refine below_set ?_ GE678.out) | exact HB.out)) hb); clear BK677; clear BK678; clear HB; have BK677 := n0_; have BK678 := n1_; have HB := n2_; clear n0_ n1_ n2_; (try clear hb); (try clear hb2); (try clear hk); (try clear hi); have hcz13_0 : w12.cell? ⟨gb677, 0, none⟩ = some (.int .i64 a0_0) := (blk_cell BK677.out 0).trans rfl; have hcz13_1 : w12.cell? ⟨gb677, 1, none⟩ = some (.int .i64 a0_1) := (blk_cell BK677.out 1).trans rfl; have hcz13_2 : w12.cell? ⟨gb677, 2, none⟩ = some (.int .u8 a0_2) := (blk_cell BK677.out 2).trans rfl; have hcz13_3 : w12.cell? ⟨gb677, 3, none⟩ = some (.int .i64 a0_3) := (blk_cell BK677.out 3).trans rfl; have hcz13_4 : w12.cell? ⟨gb677, 4, none⟩ = some (.int .i64 a0_4) := (blk_cell BK677.out 4).trans rfl; have hfz13_0 := blk_frozen BK677.out 0; have hfz13_1 := blk_frozen BK677.out 1; have hfz13_2 := blk_frozen BK677.out 2; have hfz13_3 := blk_frozen BK677.out 3; have hfz13_4 := blk_frozen BK677.out 4))
 (try simp only [Act.put, List.setIfInBounds_toArray, List.set_cons_zero, List.set_cons_succ])
 go_cut [7] (fun v7 wc => ∃ (kq : Nat) (x7_5 : Int), v7 = .int .i64 x7_5 ∧ Aside0 (rela_may.j0 kq a2 x7_5 t680 t681 a0_0 a0_1 a0_2 a0_3 a0_4 a1_0 a1_1 l1_2 a1_3 = some r) ∧ Aside0 (kq ≤ k) ∧ Aside0 (wc.heap[gb677]? = some (.cells #[.int .i64 a0_0, .int .i64 a0_1, .int .u8 a0_2, .int .i64 a0_3, .int .i64 a0_4] 71 (0, 0))) ∧ Aside0 (wc.heap[gb678]? = some (.cells #[.string a1_0, .int .i64 a1_1, (.slice A1_2 l1_2.length c1_2), .int .i64 a1_3] 36 (0, 0))) ∧ Aside0 (Below w.heap.size w wc))
 case first =>
  have H := HC6.out
  clear HC6
  by_cases c14 : a0_2 = 43
  ·
   rw [if_pos c14] at H
   have c14b0 : (a0_2 == 43) = true := beq_iff_eq.mpr c14
   have c14b1 : (a0_2 != 43) = false := bne_eq_false_iff_eq.mpr c14
   clear c14
   (first | rw [c14b0] | (simp only [i64_w, i32_w]; rw [c14b0]) | skip)
   obtain ⟨ji15, hji15⟩ : ∃ j_ : Int, (mx t679 a0_4) = j_ := ⟨_, rfl⟩
   replace H : (rela_may.j0 k a2 ji15 t680 t681 a0_0 a0_1 a0_2 a0_3 a0_4 a1_0 a1_1 l1_2 a1_3) = some r := by first | (rw [hji15] at H; exact H) | (simp only [hji15] at H ⊢; exact H)
   have hji15_ : (if t679 < a0_4 then a0_4 else t679) = ji15 := hji15
   have H' := Aside0.mk H
   clear H
   have hnb16 := NB677_678.out
   have hnc16 := NB678_677.out
   have hcz17_0 : w12.cell? ⟨gb677, 0, none⟩ = some (.int .i64 a0_0) := (blk_cell BK677.out 0).trans rfl
   have hcz17_1 : w12.cell? ⟨gb677, 1, none⟩ = some (.int .i64 a0_1) := (blk_cell BK677.out 1).trans rfl
   have hcz17_2 : w12.cell? ⟨gb677, 2, none⟩ = some (.int .u8 a0_2) := (blk_cell BK677.out 2).trans rfl
   have hcz17_3 : w12.cell? ⟨gb677, 3, none⟩ = some (.int .i64 a0_3) := (blk_cell BK677.out 3).trans rfl
   have hcz17_4 : w12.cell? ⟨gb677, 4, none⟩ = some (.int .i64 a0_4) := (blk_cell BK677.out 4).trans rfl
   have hfz17_0 := blk_frozen BK677.out 0
   have hfz17_1 := blk_frozen BK677.out 1
   have hfz17_2 := blk_frozen BK677.out 2
   have hfz17_3 := blk_frozen BK677.out 3
   have hfz17_4 := blk_frozen BK677.out 4
   go_wp2
   go_meet
   case rel => exact ⟨_, (ji15), (by first | rfl | (simp; done) | (simp only [← hji15] <;> (first | rfl | simp)) | (simp [*]; done)), H', ⟨by first | omega | exact Nat.le_refl _⟩, ⟨by (with_reducible repeat (first | refine blk_drewN ?_ _ | refine blk_drew ?_ | refine blk_alloc ?_ _)); exact BK677.out⟩, ⟨by (with_reducible repeat (first | refine blk_drewN ?_ _ | refine blk_drew ?_ | refine blk_alloc ?_ _)); exact BK678.out⟩, ⟨by repeat (first | (with_reducible first | exact HB.out | apply below_alloc | apply pw_below_drewN | apply below_drew1 | refine below_set ?_ GE677.out | refine below_set ?_ GE678.out) | exact HB.out)⟩⟩
  ·
   rw [if_neg c14] at H
   have c14b0 : (a0_2 == 43) = false := beq_eq_false_iff_ne.mpr c14
   have c14b1 : (a0_2 != 43) = true := bne_iff_ne.mpr c14
   (first | rw [c14b0] | (simp only [i64_w, i32_w]; rw [c14b0]) | skip)
   have H' := Aside0.mk H
   clear H
   go_wp2
   go_meet
   case rel => exact ⟨_, (t679), (by first | rfl | (simp; done) | (simp [*]; done)), H', ⟨by first | omega | exact Nat.le_refl _⟩, ⟨by (with_reducible repeat (first | refine blk_drewN ?_ _ | refine blk_drew ?_ | refine blk_alloc ?_ _)); exact BK677.out⟩, ⟨by (with_reducible repeat (first | refine blk_drewN ?_ _ | refine blk_drew ?_ | refine blk_alloc ?_ _)); exact BK678.out⟩, ⟨by repeat (first | (with_reducible first | exact HB.out | apply below_alloc | apply pw_below_drewN | apply below_drew1 | refine below_set ?_ GE677.out | refine below_set ?_ GE678.out) | exact HB.out)⟩⟩
 case rest =>
  clear HC6
  try clear c1
  try clear p2
  try clear c3
  try clear c5
  try clear c9
  try clear c14
  try clear c14b0
  try clear c14b1
  try clear c16
  try clear hcz10_0
  try clear hcz10_1
  try clear hcz10_2
  try clear hcz10_3
  try clear hcz10_4
  try clear hcz11_0
  try clear hcz11_1
  try clear hcz11_2
  try clear hcz11_3
  try clear hcz13_0
  try clear hcz13_1
  try clear hcz13_2
  try clear hcz13_3
  try clear hcz13_4
  try clear hcz17_0
  try clear hcz17_1
  try clear hcz17_2
  try clear hcz17_3
  try clear hcz17_4
  try clear hfz10_0
  try clear hfz10_1
  try clear hfz10_2
  try clear hfz10_3
  try clear hfz10_4
  try clear hfz11_0
  try clear hfz11_1
  try clear hfz11_2
  try clear hfz11_3
  try clear hfz13_0
  try clear hfz13_1
  try clear hfz13_2
  try clear hfz13_3
  try clear hfz13_4
  try clear hfz17_0
  try clear hfz17_1
  try clear hfz17_2
  try clear hfz17_3
  try clear hfz17_4
  obtain ⟨kq, x7_5, rfl, HA, HJ5, BK677, BK678, HB⟩ := hcut
  cases kq with
  | zero => exact absurd HA.out (by simp [rela_may.j0])
  | succ kj5 =>
   have H := HA.out
   clear HA
   simp only [rela_may.j0] at H
   have HC18 := Aside0.mk H
   clear H
   go_upto_region 5 with (fail)
   go_cut [60] (fun v60 wc => ∃ (kq : Nat) (x60_17 : Bool), v60 = .bool x60_17 ∧ Aside0 (rela_may.j1 kq a2 t681 x60_17 a0_0 a0_1 a0_2 a0_3 a0_4 = some r) ∧ Aside0 (kq ≤ kj5) ∧ Aside0 (wc.heap[gb677]? = some (.cells #[.int .i64 a0_0, .int .i64 a0_1, .int .u8 a0_2, .int .i64 a0_3, .int .i64 a0_4] 71 (0, 0))) ∧ Aside0 (wc.heap[gb678]? = some (.cells #[.string a1_0, .int .i64 a1_1, (.slice A1_2 l1_2.length c1_2), .int .i64 a1_3] 36 (0, 0))) ∧ Aside0 (Below w.heap.size w wc))
   case first =>
    have H := HC18.out
    clear HC18
    by_cases c19 : t680 = 0
    ·
     rw [if_pos c19] at H
     have c19b0 : (t680 == 0) = true := beq_iff_eq.mpr c19
     have c19b1 : (t680 != 0) = false := bne_eq_false_iff_eq.mpr c19
     clear c19
     (first | rw [c19b0] | (simp only [i64_w, i32_w]; rw [c19b0]) | skip)
     by_cases c20 : t681 = 4
     ·
      rw [if_pos c20] at H
      have c20b0 : (t681 == 4) = true := beq_iff_eq.mpr c20
      have c20b1 : (t681 != 4) = false := bne_eq_false_iff_eq.mpr c20
      clear c20
      have H' := Aside0.mk H
      clear H
      go_wp2
      go_meet
      case rel => exact ⟨_, (true), (by first | rfl | (simp; done) | (simp [*]; done)), H', ⟨by have := HJ5.out; first | omega | exact Nat.le_refl _⟩, ⟨by (with_reducible repeat (first | refine blk_drewN ?_ _ | refine blk_drew ?_ | refine blk_alloc ?_ _)); exact BK677.out⟩, ⟨by (with_reducible repeat (first | refine blk_drewN ?_ _ | refine blk_drew ?_ | refine blk_alloc ?_ _)); exact BK678.out⟩, ⟨by repeat (first | (with_reducible first | exact HB.out | apply below_alloc | apply pw_below_drewN | apply below_drew1 | refine below_set ?_ GE677.out | refine below_set ?_ GE678.out) | exact HB.out)⟩⟩
     ·
      rw [if_neg c20] at H
      have c20b0 : (t681 == 4) = false := beq_eq_false_iff_ne.mpr c20
      have c20b1 : (t681 != 4) = true := bne_iff_ne.mpr c20
      by_cases c21 : a0_1 < 0
      ·
       rw [if_pos c21] at H
       have c21b0 : decide (a0_1 < 0) = true := decide_eq_true c21
       clear c21
       have H' := Aside0.mk H
       clear H
       have hnb22 := NB677_678.out
       have hnc22 := NB678_677.out
       have hcz23_0 : wc.cell? ⟨gb677, 0, none⟩ = some (.int .i64 a0_0) := (blk_cell BK677.out 0).trans rfl
       have hcz23_1 : wc.cell? ⟨gb677, 1, none⟩ = some (.int .i64 a0_1) := (blk_cell BK677.out 1).trans rfl
       have hcz23_2 : wc.cell? ⟨gb677, 2, none⟩ = some (.int .u8 a0_2) := (blk_cell BK677.out 2).trans rfl
       have hcz23_3 : wc.cell? ⟨gb677, 3, none⟩ = some (.int .i64 a0_3) := (blk_cell BK677.out 3).trans rfl
       have hcz23_4 : wc.cell? ⟨gb677, 4, none⟩ = some (.int .i64 a0_4) := (blk_cell BK677.out 4).trans rfl
       have hfz23_0 := blk_frozen BK677.out 0
       have hfz23_1 := blk_frozen BK677.out 1
       have hfz23_2 := blk_frozen BK677.out 2
       have hfz23_3 := blk_frozen BK677.out 3
       have hfz23_4 := blk_frozen BK677.out 4
       go_wp2
       go_meet
       case rel => exact ⟨_, (true), (by first | rfl | (simp; done) | (simp [*]; done)), H', ⟨by have := HJ5.out; first | omega | exact Nat.le_refl _⟩, ⟨by (with_reducible repeat (first | refine blk_drewN ?_ _ | refine blk_drew ?_ | refine blk_alloc ?_ _)); exact BK677.out⟩, ⟨by (with_reducible repeat (first | refine blk_drewN ?_ _ | refine blk_drew ?_ | refine blk_alloc ?_ _)); exact BK678.out⟩, ⟨by repeat (first | (with_reducible first | exact HB.out | apply below_alloc | apply pw_below_drewN | apply below_drew1 | refine below_set ?_ GE677.out | refine below_set ?_ GE678.out) | exact HB.out)⟩⟩
      ·
       rw [if_neg c21] at H
       have c21b0 : decide (a0_1 < 0) = false := decide_eq_false c21
       clear c21
       by_cases c24 : a0_1 > (wrap64 ((l1_2.length : Int) - x7_5))
       ·
        rw [if_pos c24] at H
        have c24b0 : decide ((wrap64 ((l1_2.length : Int) - x7_5)) < a0_1) = true := decide_eq_true c24
        clear c24
        have H' := Aside0.mk H
        clear H
        have hnb25 := NB677_678.out
        have hnc25 := NB678_677.out
        have hcz26_0 : wc.cell? ⟨gb677, 0, none⟩ = some (.int .i64 a0_0) := (blk_cell BK677.out 0).trans rfl
        have hcz26_1 : wc.cell? ⟨gb677, 1, none⟩ = some (.int .i64 a0_1) := (blk_cell BK677.out 1).trans rfl
        have hcz26_2 : wc.cell? ⟨gb677, 2, none⟩ = some (.int .u8 a0_2) := (blk_cell BK677.out 2).trans rfl
        have hcz26_3 : wc.cell? ⟨gb677, 3, none⟩ = some (.int .i64 a0_3) := (blk_cell BK677.out 3).trans rfl
        have hcz26_4 : wc.cell? ⟨gb677, 4, none⟩ = some (.int .i64 a0_4) := (blk_cell BK677.out 4).trans rfl
        have hfz26_0 := blk_frozen BK677.out 0
        have hfz26_1 := blk_frozen BK677.out 1
        have hfz26_2 := blk_frozen BK677.out 2
        have hfz26_3 := blk_frozen BK677.out 3
        have hfz26_4 := blk_frozen BK677.out 4
        have hcz27_0 : wc.cell? ⟨gb678, 0, none⟩ = some (.string a1_0) := (blk_cell BK678.out 0).trans rfl
        have hcz27_1 : wc.cell? ⟨gb678, 1, none⟩ = some (.int .i64 a1_1) := (blk_cell BK678.out 1).trans rfl
        have hcz27_2 : wc.cell? ⟨gb678, 2, none⟩ = some (.slice A1_2 l1_2.length c1_2) := (blk_cell BK678.out 2).trans rfl
        have hcz27_3 : wc.cell? ⟨gb678, 3, none⟩ = some (.int .i64 a1_3) := (blk_cell BK678.out 3).trans rfl
        have hfz27_0 := blk_frozen BK678.out 0
        have hfz27_1 := blk_frozen BK678.out 1
        have hfz27_2 := blk_frozen BK678.out 2
        have hfz27_3 := blk_frozen BK678.out 3
        go_wp2
        go_meet
        case rel => exact ⟨_, (true), (by first | rfl | (simp; done) | (simp [*]; done)), H', ⟨by have := HJ5.out; first | omega | exact Nat.le_refl _⟩, ⟨by (with_reducible repeat (first | refine blk_drewN ?_ _ | refine blk_drew ?_ | refine blk_alloc ?_ _)); exact BK677.out⟩, ⟨by (with_reducible repeat (first | refine blk_drewN ?_ _ | refine blk_drew ?_ | refine blk_alloc ?_ _)); exact BK678.out⟩, ⟨by repeat (first | (with_reducible first | exact HB.out | apply below_alloc | apply pw_below_drewN | apply below_drew1 | refine below_set ?_ GE677.out | refine below_set ?_ GE678.out) | exact HB.out)⟩⟩
       ·
        rw [if_neg c24] at H
        have c24b0 : decide ((wrap64 ((l1_2.length : Int) - x7_5)) < a0_1) = false := decide_eq_false c24
        clear c24
        by_cases c28 : a0_4 < (-2147483648)
        ·
         rw [if_pos c28] at H
         have c28b0 : decide (a0_4 < (-2147483648)) = true := decide_eq_true c28
         clear c28
         have H' := Aside0.mk H
         clear H
         have hnb29 := NB677_678.out
         have hnc29 := NB678_677.out
         have hcz30_0 : wc.cell? ⟨gb677, 0, none⟩ = some (.int .i64 a0_0) := (blk_cell BK677.out 0).trans rfl
         have hcz30_1 : wc.cell? ⟨gb677, 1, none⟩ = some (.int .i64 a0_1) := (blk_cell BK677.out 1).trans rfl
         have hcz30_2 : wc.cell? ⟨gb677, 2, none⟩ = some (.int .u8 a0_2) := (blk_cell BK677.out 2).trans rfl
         have hcz30_3 : wc.cell? ⟨gb677, 3, none⟩ = some (.int .i64 a0_3) := (blk_cell BK677.out 3).trans rfl
         have hcz30_4 : wc.cell? ⟨gb677, 4, none⟩ = some (.int .i64 a0_4) := (blk_cell BK677.out 4).trans rfl
         have hfz30_0 := blk_frozen BK677.out 0
         have hfz30_1 := blk_frozen BK677.out 1
         have hfz30_2 := blk_frozen BK677.out 2
         have hfz30_3 := blk_frozen BK677.out 3
         have hfz30_4 := blk_frozen BK677.out 4
         have hcz31_0 : wc.cell? ⟨gb678, 0, none⟩ = some (.string a1_0) := (blk_cell BK678.out 0).trans rfl
         have hcz31_1 : wc.cell? ⟨gb678, 1, none⟩ = some (.int .i64 a1_1) := (blk_cell BK678.out 1).trans rfl
         have hcz31_2 : wc.cell? ⟨gb678, 2, none⟩ = some (.slice A1_2 l1_2.length c1_2) := (blk_cell BK678.out 2).trans rfl
         have hcz31_3 : wc.cell? ⟨gb678, 3, none⟩ = some (.int .i64 a1_3) := (blk_cell BK678.out 3).trans rfl
         have hfz31_0 := blk_frozen BK678.out 0
         have hfz31_1 := blk_frozen BK678.out 1
         have hfz31_2 := blk_frozen BK678.out 2
         have hfz31_3 := blk_frozen BK678.out 3
         go_wp2
         go_meet
         case rel => exact ⟨_, (true), (by first | rfl | (simp; done) | (simp [*]; done)), H', ⟨by have := HJ5.out; first | omega | exact Nat.le_refl _⟩, ⟨by (with_reducible repeat (first | refine blk_drewN ?_ _ | refine blk_drew ?_ | refine blk_alloc ?_ _)); exact BK677.out⟩, ⟨by (with_reducible repeat (first | refine blk_drewN ?_ _ | refine blk_drew ?_ | refine blk_alloc ?_ _)); exact BK678.out⟩, ⟨by repeat (first | (with_reducible first | exact HB.out | apply below_alloc | apply pw_below_drewN | apply below_drew1 | refine below_set ?_ GE677.out | refine below_set ?_ GE678.out) | exact HB.out)⟩⟩
        ·
         rw [if_neg c28] at H
         have c28b0 : decide (a0_4 < (-2147483648)) = false := decide_eq_false c28
         clear c28
         have H' := Aside0.mk H
         clear H
         have hnb32 := NB677_678.out
         have hnc32 := NB678_677.out
         have hcz33_0 : wc.cell? ⟨gb677, 0, none⟩ = some (.int .i64 a0_0) := (blk_cell BK677.out 0).trans rfl
         have hcz33_1 : wc.cell? ⟨gb677, 1, none⟩ = some (.int .i64 a0_1) := (blk_cell BK677.out 1).trans rfl
         have hcz33_2 : wc.cell? ⟨gb677, 2, none⟩ = some (.int .u8 a0_2) := (blk_cell BK677.out 2).trans rfl
         have hcz33_3 : wc.cell? ⟨gb677, 3, none⟩ = some (.int .i64 a0_3) := (blk_cell BK677.out 3).trans rfl
         have hcz33_4 : wc.cell? ⟨gb677, 4, none⟩ = some (.int .i64 a0_4) := (blk_cell BK677.out 4).trans rfl
         have hfz33_0 := blk_frozen BK677.out 0
         have hfz33_1 := blk_frozen BK677.out 1
         have hfz33_2 := blk_frozen BK677.out 2
         have hfz33_3 := blk_frozen BK677.out 3
         have hfz33_4 := blk_frozen BK677.out 4
         have hcz34_0 : wc.cell? ⟨gb678, 0, none⟩ = some (.string a1_0) := (blk_cell BK678.out 0).trans rfl
         have hcz34_1 : wc.cell? ⟨gb678, 1, none⟩ = some (.int .i64 a1_1) := (blk_cell BK678.out 1).trans rfl
         have hcz34_2 : wc.cell? ⟨gb678, 2, none⟩ = some (.slice A1_2 l1_2.length c1_2) := (blk_cell BK678.out 2).trans rfl
         have hcz34_3 : wc.cell? ⟨gb678, 3, none⟩ = some (.int .i64 a1_3) := (blk_cell BK678.out 3).trans rfl
         have hfz34_0 := blk_frozen BK678.out 0
         have hfz34_1 := blk_frozen BK678.out 1
         have hfz34_2 := blk_frozen BK678.out 2
         have hfz34_3 := blk_frozen BK678.out 3
         go_wp2
         go_meet
         case rel => exact ⟨_, (decide (a0_4 > 4294967295)), (by first | rfl | (simp; done) | (simp [*]; done)), H', ⟨by have := HJ5.out; first | omega | exact Nat.le_refl _⟩, ⟨by (with_reducible repeat (first | refine blk_drewN ?_ _ | refine blk_drew ?_ | refine blk_alloc ?_ _)); exact BK677.out⟩, ⟨by (with_reducible repeat (first | refine blk_drewN ?_ _ | refine blk_drew ?_ | refine blk_alloc ?_ _)); exact BK678.out⟩, ⟨by repeat (first | (with_reducible first | exact HB.out | apply below_alloc | apply pw_below_drewN | apply below_drew1 | refine below_set ?_ GE677.out | refine below_set ?_ GE678.out) | exact HB.out)⟩⟩
    ·
     rw [if_neg c19] at H
     have c19b0 : (t680 == 0) = false := beq_eq_false_iff_ne.mpr c19
     have c19b1 : (t680 != 0) = true := bne_iff_ne.mpr c19
     (first | rw [c19b0] | (simp only [i64_w, i32_w]; rw [c19b0]) | skip)
     have H' := Aside0.mk H
     clear H
     go_wp2
     go_meet
     case rel => exact ⟨_, (true), (by first | rfl | (simp; done) | (simp [*]; done)), H', ⟨by have := HJ5.out; first | omega | exact Nat.le_refl _⟩, ⟨by (with_reducible repeat (first | refine blk_drewN ?_ _ | refine blk_drew ?_ | refine blk_alloc ?_ _)); exact BK677.out⟩, ⟨by (with_reducible repeat (first | refine blk_drewN ?_ _ | refine blk_drew ?_ | refine blk_alloc ?_ _)); exact BK678.out⟩, ⟨by repeat (first | (with_reducible first | exact HB.out | apply below_alloc | apply pw_below_drewN | apply below_drew1 | refine below_set ?_ GE677.out | refine below_set ?_ GE678.out) | exact HB.out)⟩⟩
   case rest =>
    clear HC18
    try clear c1
    try clear c2
    try clear p2
    try clear c3
    try clear c5
    try clear p6
    try clear c9
    try clear c14
    try clear c14b0
    try clear c14b1
    try clear c16
    try clear c19
    try clear c19b0
    try clear c19b1
    try clear c20
    try clear c20b0
    try clear c20b1
    try clear c21
    try clear c21b0
    try clear c22
    try clear c24
    try clear c24b0
    try clear c25
    try clear c28
    try clear c28b0
    try clear c29
    try clear c32
    try clear hcz10_0
    try clear hcz10_1
    try clear hcz10_2
    try clear hcz10_3
    try clear hcz10_4
    try clear hcz11_0
    try clear hcz11_1
    try clear hcz11_2
    try clear hcz11_3
    try clear hcz13_0
    try clear hcz13_1
    try clear hcz13_2
    try clear hcz13_3
    try clear hcz13_4
    try clear hcz17_0
    try clear hcz17_1
    try clear hcz17_2
    try clear hcz17_3
    try clear hcz17_4
    try clear hcz23_0
    try clear hcz23_1
    try clear hcz23_2
    try clear hcz23_3
    try clear hcz23_4
    try clear hcz26_0
    try clear hcz26_1
    try clear hcz26_2
    try clear hcz26_3
    try clear hcz26_4
    try clear hcz27_0
    try clear hcz27_1
    try clear hcz27_2
    try clear hcz27_3
    try clear hcz30_0
    try clear hcz30_1
    try clear hcz30_2
    try clear hcz30_3
    try clear hcz30_4
    try clear hcz31_0
    try clear hcz31_1
    try clear hcz31_2
    try clear hcz31_3
    try clear hcz33_0
    try clear hcz33_1
    try clear hcz33_2
    try clear hcz33_3
    try clear hcz33_4
    try clear hcz34_0
    try clear hcz34_1
    try clear hcz34_2
    try clear hcz34_3
    try clear hfz10_0
    try clear hfz10_1
    try clear hfz10_2
    try clear hfz10_3
    try clear hfz10_4
    try clear hfz11_0
    try clear hfz11_1
    try clear hfz11_2
    try clear hfz11_3
    try clear hfz13_0
    try clear hfz13_1
    try clear hfz13_2
    try clear hfz13_3
    try clear hfz13_4
    try clear hfz17_0
    try clear hfz17_1
    try clear hfz17_2
    try clear hfz17_3
    try clear hfz17_4
    try clear hfz23_0
    try clear hfz23_1
    try clear hfz23_2
    try clear hfz23_3
    try clear hfz23_4
    try clear hfz26_0
    try clear hfz26_1
    try clear hfz26_2
    try clear hfz26_3
    try clear hfz26_4
    try clear hfz27_0
    try clear hfz27_1
    try clear hfz27_2
    try clear hfz27_3
    try clear hfz30_0
    try clear hfz30_1
    try clear hfz30_2
    try clear hfz30_3
    try clear hfz30_4
    try clear hfz31_0
    try clear hfz31_1
    try clear hfz31_2
    try clear hfz31_3
    try clear hfz33_0
    try clear hfz33_1
    try clear hfz33_2
    try clear hfz33_3
    try clear hfz33_4
    try clear hfz34_0
    try clear hfz34_1
    try clear hfz34_2
    try clear hfz34_3
    try clear p2
    obtain ⟨kq, x60_17, rfl, HA, HJ17, BK677, BK678, HB⟩ := hcut
    cases kq with
    | zero => exact absurd HA.out (by simp [rela_may.j1])
    | succ kj17 =>
     have H := HA.out
     clear HA
     simp only [rela_may.j1] at H
     by_cases c35 : x60_17 = true
     ·
      subst c35
      have H1 : (some false) = some r := by rw [if_pos rfl] at H; exact H
      clear H
      have H := H1
      clear H1
      obtain rfl := Option.some.inj H
      go_wp2
      go_ret
      exact ⟨by first | rfl | (simp [errW_none, errW_some] <;> rfl) | (simp [*, errW_none, errW_some] <;> rfl), by repeat (first | (with_reducible first | exact HB.out | apply below_alloc | apply pw_below_drewN | apply below_drew1 | refine below_set ?_ GE677.out | refine below_set ?_ GE678.out) | exact HB.out)⟩
     ·
      replace c35 := Bool.eq_false_iff.mpr c35
      subst c35
      have H1 : ((rela_set_has.f 2190433320966 a0_2).bind fun t683 => (if t683 = true then (rela_may.j2 kj17 a2 false a0_0 a0_1 a0_2 a0_3 a0_4) else (if t681 = 1 then (rela_may.j2 kj17 a2 ((Go.bits .and .i64 a0_1 1) == 1) a0_0 a0_1 a0_2 a0_3 a0_4) else (rela_may.j2 kj17 a2 true a0_0 a0_1 a0_2 a0_3 a0_4)))) = some r := by rw [if_neg (show ¬ (false = true) by decide)] at H; exact H
      clear H
      have H := H1
      clear H1
      have HC36 := Aside0.mk H
      clear H
      go_upto_region 7 with (fail)
      go_cut [74] (fun v74 wc => ∃ (kq : Nat) (x74_35 : Bool), v74 = .bool x74_35 ∧ Aside0 (rela_may.j2 kq a2 x74_35 a0_0 a0_1 a0_2 a0_3 a0_4 = some r) ∧ Aside0 (kq ≤ kj17) ∧ Aside0 (wc.heap[gb677]? = some (.cells #[.int .i64 a0_0, .int .i64 a0_1, .int .u8 a0_2, .int .i64 a0_3, .int .i64 a0_4] 71 (0, 0))) ∧ Aside0 (wc.heap[gb678]? = some (.cells #[.string a1_0, .int .i64 a1_1, (.slice A1_2 l1_2.length c1_2), .int .i64 a1_3] 36 (0, 0))) ∧ Aside0 (Below w.heap.size w wc))
      case first =>
       have H := HC36.out
       clear HC36
       replace H := Option.bind_eq_some_iff.mp H
       obtain ⟨t683, A370, H⟩ := H
       replace H : (if t683 = true then (rela_may.j2 kj17 a2 false a0_0 a0_1 a0_2 a0_3 a0_4) else (if t681 = 1 then (rela_may.j2 kj17 a2 ((Go.bits .and .i64 a0_1 1) == 1) a0_0 a0_1 a0_2 a0_3 a0_4) else (rela_may.j2 kj17 a2 true a0_0 a0_1 a0_2 a0_3 a0_4))) = some r := H
       have A37 := Aside0.mk A370
       clear A370
       by_cases c38 : t683 = true
       ·
        subst c38
        have H1 : (rela_may.j2 kj17 a2 false a0_0 a0_1 a0_2 a0_3 a0_4) = some r := by rw [if_pos rfl] at H; exact H
        clear H
        have H := H1
        clear H1
        have H' := Aside0.mk H
        clear H
        have hnb39 := NB677_678.out
        have hnc39 := NB678_677.out
        have hcz40_0 : wc.cell? ⟨gb677, 0, none⟩ = some (.int .i64 a0_0) := (blk_cell BK677.out 0).trans rfl
        have hcz40_1 : wc.cell? ⟨gb677, 1, none⟩ = some (.int .i64 a0_1) := (blk_cell BK677.out 1).trans rfl
        have hcz40_2 : wc.cell? ⟨gb677, 2, none⟩ = some (.int .u8 a0_2) := (blk_cell BK677.out 2).trans rfl
        have hcz40_3 : wc.cell? ⟨gb677, 3, none⟩ = some (.int .i64 a0_3) := (blk_cell BK677.out 3).trans rfl
        have hcz40_4 : wc.cell? ⟨gb677, 4, none⟩ = some (.int .i64 a0_4) := (blk_cell BK677.out 4).trans rfl
        have hfz40_0 := blk_frozen BK677.out 0
        have hfz40_1 := blk_frozen BK677.out 1
        have hfz40_2 := blk_frozen BK677.out 2
        have hfz40_3 := blk_frozen BK677.out 3
        have hfz40_4 := blk_frozen BK677.out 4
        go_wp2_with (first | ((with_reducible refine gate_callee (f := 112) rfl ?_); refine goesL_ (some 63) rfl rfl Try.func112 (by kernel_rfl) rfl #[.int .u64 2190433320966, .int .u8 a0_2] rfl (by (try simp only [List.map_toArray, List.map_cons, List.map_nil]); first | done | rfl | (simp only [List.length_drop, List.length_take]; rfl)) ?_; (with_reducible refine (rela_set_has.calls 2190433320966 a0_2 true _ A37.out).mono ?_); rintro e w' ⟨rfl, ⟨nd, rfl⟩⟩; refine ⟨_, rfl, ?_⟩))
        go_meet
        case rel => exact ⟨_, (false), (by first | rfl | (simp; done) | (simp [*]; done)), H', ⟨by have := HJ5.out; have := HJ17.out; first | omega | exact Nat.le_refl _⟩, ⟨by (with_reducible repeat (first | refine blk_drewN ?_ _ | refine blk_drew ?_ | refine blk_alloc ?_ _)); exact BK677.out⟩, ⟨by (with_reducible repeat (first | refine blk_drewN ?_ _ | refine blk_drew ?_ | refine blk_alloc ?_ _)); exact BK678.out⟩, ⟨by repeat (first | (with_reducible first | exact HB.out | apply below_alloc | apply pw_below_drewN | apply below_drew1 | refine below_set ?_ GE677.out | refine below_set ?_ GE678.out) | exact HB.out)⟩⟩
       ·
        replace c38 := Bool.eq_false_iff.mpr c38
        subst c38
        have H1 : (if t681 = 1 then (rela_may.j2 kj17 a2 ((Go.bits .and .i64 a0_1 1) == 1) a0_0 a0_1 a0_2 a0_3 a0_4) else (rela_may.j2 kj17 a2 true a0_0 a0_1 a0_2 a0_3 a0_4)) = some r := by rw [if_neg (show ¬ (false = true) by decide)] at H; exact H
        clear H
        have H := H1
        clear H1
        by_cases c41 : t681 = 1
        ·
         rw [if_pos c41] at H
         have c41b0 : (t681 == 1) = true := beq_iff_eq.mpr c41
         have c41b1 : (t681 != 1) = false := bne_eq_false_iff_eq.mpr c41
         clear c41
         (first | rw [c41b0] | (simp only [i64_w, i32_w]; rw [c41b0]) | skip)
         have H' := Aside0.mk H
         clear H
         have hnb42 := NB677_678.out
         have hnc42 := NB678_677.out
         have hcz43_0 : wc.cell? ⟨gb677, 0, none⟩ = some (.int .i64 a0_0) := (blk_cell BK677.out 0).trans rfl
         have hcz43_1 : wc.cell? ⟨gb677, 1, none⟩ = some (.int .i64 a0_1) := (blk_cell BK677.out 1).trans rfl
         have hcz43_2 : wc.cell? ⟨gb677, 2, none⟩ = some (.int .u8 a0_2) := (blk_cell BK677.out 2).trans rfl
         have hcz43_3 : wc.cell? ⟨gb677, 3, none⟩ = some (.int .i64 a0_3) := (blk_cell BK677.out 3).trans rfl
         have hcz43_4 : wc.cell? ⟨gb677, 4, none⟩ = some (.int .i64 a0_4) := (blk_cell BK677.out 4).trans rfl
         have hfz43_0 := blk_frozen BK677.out 0
         have hfz43_1 := blk_frozen BK677.out 1
         have hfz43_2 := blk_frozen BK677.out 2
         have hfz43_3 := blk_frozen BK677.out 3
         have hfz43_4 := blk_frozen BK677.out 4
         go_wp2_with (first | ((with_reducible refine gate_callee (f := 112) rfl ?_); refine goesL_ (some 63) rfl rfl Try.func112 (by kernel_rfl) rfl #[.int .u64 2190433320966, .int .u8 a0_2] rfl (by (try simp only [List.map_toArray, List.map_cons, List.map_nil]); first | done | rfl | (simp only [List.length_drop, List.length_take]; rfl)) ?_; (with_reducible refine (rela_set_has.calls 2190433320966 a0_2 false _ A37.out).mono ?_); rintro e w' ⟨rfl, ⟨nd, rfl⟩⟩; refine ⟨_, rfl, ?_⟩))
         go_meet
         case rel => exact ⟨_, (((Go.bits .and .i64 a0_1 1) == 1)), (by first | rfl | (simp; done) | (simp [*]; done)), H', ⟨by have := HJ5.out; have := HJ17.out; first | omega | exact Nat.le_refl _⟩, ⟨by (with_reducible repeat (first | refine blk_drewN ?_ _ | refine blk_drew ?_ | refine blk_alloc ?_ _)); exact BK677.out⟩, ⟨by (with_reducible repeat (first | refine blk_drewN ?_ _ | refine blk_drew ?_ | refine blk_alloc ?_ _)); exact BK678.out⟩, ⟨by repeat (first | (with_reducible first | exact HB.out | apply below_alloc | apply pw_below_drewN | apply below_drew1 | refine below_set ?_ GE677.out | refine below_set ?_ GE678.out) | exact HB.out)⟩⟩
        ·
         rw [if_neg c41] at H
         have c41b0 : (t681 == 1) = false := beq_eq_false_iff_ne.mpr c41
         have c41b1 : (t681 != 1) = true := bne_iff_ne.mpr c41
         (first | rw [c41b0] | (simp only [i64_w, i32_w]; rw [c41b0]) | skip)
         have H' := Aside0.mk H
         clear H
         have hnb44 := NB677_678.out
         have hnc44 := NB678_677.out
         have hcz45_0 : wc.cell? ⟨gb677, 0, none⟩ = some (.int .i64 a0_0) := (blk_cell BK677.out 0).trans rfl
         have hcz45_1 : wc.cell? ⟨gb677, 1, none⟩ = some (.int .i64 a0_1) := (blk_cell BK677.out 1).trans rfl
         have hcz45_2 : wc.cell? ⟨gb677, 2, none⟩ = some (.int .u8 a0_2) := (blk_cell BK677.out 2).trans rfl
         have hcz45_3 : wc.cell? ⟨gb677, 3, none⟩ = some (.int .i64 a0_3) := (blk_cell BK677.out 3).trans rfl
         have hcz45_4 : wc.cell? ⟨gb677, 4, none⟩ = some (.int .i64 a0_4) := (blk_cell BK677.out 4).trans rfl
         have hfz45_0 := blk_frozen BK677.out 0
         have hfz45_1 := blk_frozen BK677.out 1
         have hfz45_2 := blk_frozen BK677.out 2
         have hfz45_3 := blk_frozen BK677.out 3
         have hfz45_4 := blk_frozen BK677.out 4
         go_wp2_with (first | ((with_reducible refine gate_callee (f := 112) rfl ?_); refine goesL_ (some 63) rfl rfl Try.func112 (by kernel_rfl) rfl #[.int .u64 2190433320966, .int .u8 a0_2] rfl (by (try simp only [List.map_toArray, List.map_cons, List.map_nil]); first | done | rfl | (simp only [List.length_drop, List.length_take]; rfl)) ?_; (with_reducible refine (rela_set_has.calls 2190433320966 a0_2 false _ A37.out).mono ?_); rintro e w' ⟨rfl, ⟨nd, rfl⟩⟩; refine ⟨_, rfl, ?_⟩))
         go_meet
         case rel => exact ⟨_, (true), (by first | rfl | (simp; done) | (simp [*]; done)), H', ⟨by have := HJ5.out; have := HJ17.out; first | omega | exact Nat.le_refl _⟩, ⟨by (with_reducible repeat (first | refine blk_drewN ?_ _ | refine blk_drew ?_ | refine blk_alloc ?_ _)); exact BK677.out⟩, ⟨by (with_reducible repeat (first | refine blk_drewN ?_ _ | refine blk_drew ?_ | refine blk_alloc ?_ _)); exact BK678.out⟩, ⟨by repeat (first | (with_reducible first | exact HB.out | apply below_alloc | apply pw_below_drewN | apply below_drew1 | refine below_set ?_ GE677.out | refine below_set ?_ GE678.out) | exact HB.out)⟩⟩
      case rest =>
       clear HC36
       try clear c1
       try clear c2
       try clear p2
       try clear c3
       try clear c4
       try clear c5
       try clear p6
       try clear c9
       try clear c11
       try clear c14
       try clear c14b0
       try clear c14b1
       try clear c16
       try clear c19
       try clear c19b0
       try clear c19b1
       try clear c20
       try clear c20b0
       try clear c20b1
       try clear c21
       try clear c21b0
       try clear c22
       try clear c24
       try clear c24b0
       try clear c25
       try clear c28
       try clear c28b0
       try clear c29
       try clear c32
       try clear c35
       try clear c38
       try clear c39
       try clear c41
       try clear c41b0
       try clear c41b1
       try clear c42
       try clear c44
       try clear hcz10_0
       try clear hcz10_1
       try clear hcz10_2
       try clear hcz10_3
       try clear hcz10_4
       try clear hcz11_0
       try clear hcz11_1
       try clear hcz11_2
       try clear hcz11_3
       try clear hcz13_0
       try clear hcz13_1
       try clear hcz13_2
       try clear hcz13_3
       try clear hcz13_4
       try clear hcz17_0
       try clear hcz17_1
       try clear hcz17_2
       try clear hcz17_3
       try clear hcz17_4
       try clear hcz23_0
       try clear hcz23_1
       try clear hcz23_2
       try clear hcz23_3
       try clear hcz23_4
       try clear hcz26_0
       try clear hcz26_1
       try clear hcz26_2
       try clear hcz26_3
       try clear hcz26_4
       try clear hcz27_0
       try clear hcz27_1
       try clear hcz27_2
       try clear hcz27_3
       try clear hcz30_0
       try clear hcz30_1
       try clear hcz30_2
       try clear hcz30_3
       try clear hcz30_4
       try clear hcz31_0
       try clear hcz31_1
       try clear hcz31_2
       try clear hcz31_3
       try clear hcz33_0
       try clear hcz33_1
       try clear hcz33_2
       try clear hcz33_3
       try clear hcz33_4
       try clear hcz34_0
       try clear hcz34_1
       try clear hcz34_2
       try clear hcz34_3
       try clear hcz40_0
       try clear hcz40_1
       try clear hcz40_2
       try clear hcz40_3
       try clear hcz40_4
       try clear hcz43_0
       try clear hcz43_1
       try clear hcz43_2
       try clear hcz43_3
       try clear hcz43_4
       try clear hcz45_0
       try clear hcz45_1
       try clear hcz45_2
       try clear hcz45_3
       try clear hcz45_4
       try clear hfz10_0
       try clear hfz10_1
       try clear hfz10_2
       try clear hfz10_3
       try clear hfz10_4
       try clear hfz11_0
       try clear hfz11_1
       try clear hfz11_2
       try clear hfz11_3
       try clear hfz13_0
       try clear hfz13_1
       try clear hfz13_2
       try clear hfz13_3
       try clear hfz13_4
       try clear hfz17_0
       try clear hfz17_1
       try clear hfz17_2
       try clear hfz17_3
       try clear hfz17_4
       try clear hfz23_0
       try clear hfz23_1
       try clear hfz23_2
       try clear hfz23_3
       try clear hfz23_4
       try clear hfz26_0
       try clear hfz26_1
       try clear hfz26_2
       try clear hfz26_3
       try clear hfz26_4
       try clear hfz27_0
       try clear hfz27_1
       try clear hfz27_2
       try clear hfz27_3
       try clear hfz30_0
       try clear hfz30_1
       try clear hfz30_2
       try clear hfz30_3
       try clear hfz30_4
       try clear hfz31_0
       try clear hfz31_1
       try clear hfz31_2
       try clear hfz31_3
       try clear hfz33_0
       try clear hfz33_1
       try clear hfz33_2
       try clear hfz33_3
       try clear hfz33_4
       try clear hfz34_0
       try clear hfz34_1
       try clear hfz34_2
       try clear hfz34_3
       try clear hfz40_0
       try clear hfz40_1
       try clear hfz40_2
       try clear hfz40_3
       try clear hfz40_4
       try clear hfz43_0
       try clear hfz43_1
       try clear hfz43_2
       try clear hfz43_3
       try clear hfz43_4
       try clear hfz45_0
       try clear hfz45_1
       try clear hfz45_2
       try clear hfz45_3
       try clear hfz45_4
       try clear p2
       try clear p6
       obtain ⟨kq, x74_35, rfl, HA, HJ35, BK677, BK678, HB⟩ := hcut
       cases kq with
       | zero => exact absurd HA.out (by simp [rela_may.j2])
       | succ kj35 =>
        have H := HA.out
        clear HA
        simp only [rela_may.j2] at H
        by_cases c46 : x74_35 = true
        ·
         subst c46
         have H1 : (some false) = some r := by rw [if_pos rfl] at H; exact H
         clear H
         have H := H1
         clear H1
         obtain rfl := Option.some.inj H
         go_wp2
         go_ret
         exact ⟨by first | rfl | (simp [errW_none, errW_some] <;> rfl) | (simp [*, errW_none, errW_some] <;> rfl), by repeat (first | (with_reducible first | exact HB.out | apply below_alloc | apply pw_below_drewN | apply below_drew1 | refine below_set ?_ GE677.out | refine below_set ?_ GE678.out) | exact HB.out)⟩
        ·
         replace c46 := Bool.eq_false_iff.mpr c46
         subst c46
         have H1 : ((rela_set_has.f 2251799864016896 a0_2).bind fun t684 => (if t684 = true then (if a0_4 = 0 then (if a0_2 = 43 then (if a0_4 < 0 then (rela_may.j3 kj35 a2 true a0_0 a0_1 a0_2 a0_3 a0_4) else (if a0_4 > 62 then (rela_may.j3 kj35 a2 true a0_0 a0_1 a0_2 a0_3 a0_4) else (rela_may.j3 kj35 a2 ((Go.bits .and .i64 a0_4 1) == 1) a0_0 a0_1 a0_2 a0_3 a0_4))) else (rela_may.j3 kj35 a2 false a0_0 a0_1 a0_2 a0_3 a0_4)) else (rela_may.j3 kj35 a2 true a0_0 a0_1 a0_2 a0_3 a0_4)) else (if a0_2 = 43 then (if a0_4 < 0 then (rela_may.j3 kj35 a2 true a0_0 a0_1 a0_2 a0_3 a0_4) else (if a0_4 > 62 then (rela_may.j3 kj35 a2 true a0_0 a0_1 a0_2 a0_3 a0_4) else (rela_may.j3 kj35 a2 ((Go.bits .and .i64 a0_4 1) == 1) a0_0 a0_1 a0_2 a0_3 a0_4))) else (rela_may.j3 kj35 a2 false a0_0 a0_1 a0_2 a0_3 a0_4)))) = some r := by rw [if_neg (show ¬ (false = true) by decide)] at H; exact H
         clear H
         have H := H1
         clear H1
         have HC47 := Aside0.mk H
         clear H
         go_upto_region 9 with (fail)
         go_cut [103] (fun v103 wc => ∃ (kq : Nat) (x103_46 : Bool), v103 = .bool x103_46 ∧ Aside0 (rela_may.j3 kq a2 x103_46 a0_0 a0_1 a0_2 a0_3 a0_4 = some r) ∧ Aside0 (kq ≤ kj35) ∧ Aside0 (wc.heap[gb677]? = some (.cells #[.int .i64 a0_0, .int .i64 a0_1, .int .u8 a0_2, .int .i64 a0_3, .int .i64 a0_4] 71 (0, 0))) ∧ Aside0 (wc.heap[gb678]? = some (.cells #[.string a1_0, .int .i64 a1_1, (.slice A1_2 l1_2.length c1_2), .int .i64 a1_3] 36 (0, 0))) ∧ Aside0 (Below w.heap.size w wc))
         case first =>
          have H := HC47.out
          clear HC47
          replace H := Option.bind_eq_some_iff.mp H
          obtain ⟨t684, A480, H⟩ := H
          replace H : (if t684 = true then (if a0_4 = 0 then (if a0_2 = 43 then (if a0_4 < 0 then (rela_may.j3 kj35 a2 true a0_0 a0_1 a0_2 a0_3 a0_4) else (if a0_4 > 62 then (rela_may.j3 kj35 a2 true a0_0 a0_1 a0_2 a0_3 a0_4) else (rela_may.j3 kj35 a2 ((Go.bits .and .i64 a0_4 1) == 1) a0_0 a0_1 a0_2 a0_3 a0_4))) else (rela_may.j3 kj35 a2 false a0_0 a0_1 a0_2 a0_3 a0_4)) else (rela_may.j3 kj35 a2 true a0_0 a0_1 a0_2 a0_3 a0_4)) else (if a0_2 = 43 then (if a0_4 < 0 then (rela_may.j3 kj35 a2 true a0_0 a0_1 a0_2 a0_3 a0_4) else (if a0_4 > 62 then (rela_may.j3 kj35 a2 true a0_0 a0_1 a0_2 a0_3 a0_4) else (rela_may.j3 kj35 a2 ((Go.bits .and .i64 a0_4 1) == 1) a0_0 a0_1 a0_2 a0_3 a0_4))) else (rela_may.j3 kj35 a2 false a0_0 a0_1 a0_2 a0_3 a0_4))) = some r := H
          have A48 := Aside0.mk A480
          clear A480
          by_cases c49 : t684 = true
          ·
           subst c49
           have H1 : (if a0_4 = 0 then (if a0_2 = 43 then (if a0_4 < 0 then (rela_may.j3 kj35 a2 true a0_0 a0_1 a0_2 a0_3 a0_4) else (if a0_4 > 62 then (rela_may.j3 kj35 a2 true a0_0 a0_1 a0_2 a0_3 a0_4) else (rela_may.j3 kj35 a2 ((Go.bits .and .i64 a0_4 1) == 1) a0_0 a0_1 a0_2 a0_3 a0_4))) else (rela_may.j3 kj35 a2 false a0_0 a0_1 a0_2 a0_3 a0_4)) else (rela_may.j3 kj35 a2 true a0_0 a0_1 a0_2 a0_3 a0_4)) = some r := by rw [if_pos rfl] at H; exact H
           clear H
           have H := H1
           clear H1
           by_cases c50 : a0_4 = 0
           ·
            rw [if_pos c50] at H
            have c50b0 : (a0_4 == 0) = true := beq_iff_eq.mpr c50
            have c50b1 : (a0_4 != 0) = false := bne_eq_false_iff_eq.mpr c50
            clear c50
            (first | rw [c50b0] | (simp only [i64_w, i32_w]; rw [c50b0]) | skip)
            by_cases c51 : a0_2 = 43
            ·
             rw [if_pos c51] at H
             have c51b0 : (a0_2 == 43) = true := beq_iff_eq.mpr c51
             have c51b1 : (a0_2 != 43) = false := bne_eq_false_iff_eq.mpr c51
             clear c51
             by_cases c52 : a0_4 < 0
             ·
              rw [if_pos c52] at H
              have c52b0 : decide (a0_4 < 0) = true := decide_eq_true c52
              clear c52
              have H' := Aside0.mk H
              clear H
              have hnb53 := NB677_678.out
              have hnc53 := NB678_677.out
              have hcz54_0 : wc.cell? ⟨gb677, 0, none⟩ = some (.int .i64 a0_0) := (blk_cell BK677.out 0).trans rfl
              have hcz54_1 : wc.cell? ⟨gb677, 1, none⟩ = some (.int .i64 a0_1) := (blk_cell BK677.out 1).trans rfl
              have hcz54_2 : wc.cell? ⟨gb677, 2, none⟩ = some (.int .u8 a0_2) := (blk_cell BK677.out 2).trans rfl
              have hcz54_3 : wc.cell? ⟨gb677, 3, none⟩ = some (.int .i64 a0_3) := (blk_cell BK677.out 3).trans rfl
              have hcz54_4 : wc.cell? ⟨gb677, 4, none⟩ = some (.int .i64 a0_4) := (blk_cell BK677.out 4).trans rfl
              have hfz54_0 := blk_frozen BK677.out 0
              have hfz54_1 := blk_frozen BK677.out 1
              have hfz54_2 := blk_frozen BK677.out 2
              have hfz54_3 := blk_frozen BK677.out 3
              have hfz54_4 := blk_frozen BK677.out 4
              go_wp2_with (first | ((with_reducible refine gate_callee (f := 112) rfl ?_); refine goesL_ (some 77) rfl rfl Try.func112 (by kernel_rfl) rfl #[.int .u64 2251799864016896, .int .u8 a0_2] rfl (by (try simp only [List.map_toArray, List.map_cons, List.map_nil]); first | done | rfl | (simp only [List.length_drop, List.length_take]; rfl)) ?_; (with_reducible refine (rela_set_has.calls 2251799864016896 a0_2 true _ A48.out).mono ?_); rintro e w' ⟨rfl, ⟨nd, rfl⟩⟩; refine ⟨_, rfl, ?_⟩))
              go_meet
              case rel => exact ⟨_, (true), (by first | rfl | (simp; done) | (simp [*]; done)), H', ⟨by have := HJ5.out; have := HJ17.out; have := HJ35.out; first | omega | exact Nat.le_refl _⟩, ⟨by (with_reducible repeat (first | refine blk_drewN ?_ _ | refine blk_drew ?_ | refine blk_alloc ?_ _)); exact BK677.out⟩, ⟨by (with_reducible repeat (first | refine blk_drewN ?_ _ | refine blk_drew ?_ | refine blk_alloc ?_ _)); exact BK678.out⟩, ⟨by repeat (first | (with_reducible first | exact HB.out | apply below_alloc | apply pw_below_drewN | apply below_drew1 | refine below_set ?_ GE677.out | refine below_set ?_ GE678.out) | exact HB.out)⟩⟩
             ·
              rw [if_neg c52] at H
              have c52b0 : decide (a0_4 < 0) = false := decide_eq_false c52
              clear c52
              by_cases c55 : a0_4 > 62
              ·
               rw [if_pos c55] at H
               have c55b0 : decide (62 < a0_4) = true := decide_eq_true c55
               clear c55
               have H' := Aside0.mk H
               clear H
               have hnb56 := NB677_678.out
               have hnc56 := NB678_677.out
               have hcz57_0 : wc.cell? ⟨gb677, 0, none⟩ = some (.int .i64 a0_0) := (blk_cell BK677.out 0).trans rfl
               have hcz57_1 : wc.cell? ⟨gb677, 1, none⟩ = some (.int .i64 a0_1) := (blk_cell BK677.out 1).trans rfl
               have hcz57_2 : wc.cell? ⟨gb677, 2, none⟩ = some (.int .u8 a0_2) := (blk_cell BK677.out 2).trans rfl
               have hcz57_3 : wc.cell? ⟨gb677, 3, none⟩ = some (.int .i64 a0_3) := (blk_cell BK677.out 3).trans rfl
               have hcz57_4 : wc.cell? ⟨gb677, 4, none⟩ = some (.int .i64 a0_4) := (blk_cell BK677.out 4).trans rfl
               have hfz57_0 := blk_frozen BK677.out 0
               have hfz57_1 := blk_frozen BK677.out 1
               have hfz57_2 := blk_frozen BK677.out 2
               have hfz57_3 := blk_frozen BK677.out 3
               have hfz57_4 := blk_frozen BK677.out 4
               go_wp2_with (first | ((with_reducible refine gate_callee (f := 112) rfl ?_); refine goesL_ (some 77) rfl rfl Try.func112 (by kernel_rfl) rfl #[.int .u64 2251799864016896, .int .u8 a0_2] rfl (by (try simp only [List.map_toArray, List.map_cons, List.map_nil]); first | done | rfl | (simp only [List.length_drop, List.length_take]; rfl)) ?_; (with_reducible refine (rela_set_has.calls 2251799864016896 a0_2 true _ A48.out).mono ?_); rintro e w' ⟨rfl, ⟨nd, rfl⟩⟩; refine ⟨_, rfl, ?_⟩))
               go_meet
               case rel => exact ⟨_, (true), (by first | rfl | (simp; done) | (simp [*]; done)), H', ⟨by have := HJ5.out; have := HJ17.out; have := HJ35.out; first | omega | exact Nat.le_refl _⟩, ⟨by (with_reducible repeat (first | refine blk_drewN ?_ _ | refine blk_drew ?_ | refine blk_alloc ?_ _)); exact BK677.out⟩, ⟨by (with_reducible repeat (first | refine blk_drewN ?_ _ | refine blk_drew ?_ | refine blk_alloc ?_ _)); exact BK678.out⟩, ⟨by repeat (first | (with_reducible first | exact HB.out | apply below_alloc | apply pw_below_drewN | apply below_drew1 | refine below_set ?_ GE677.out | refine below_set ?_ GE678.out) | exact HB.out)⟩⟩
              ·
               rw [if_neg c55] at H
               have c55b0 : decide (62 < a0_4) = false := decide_eq_false c55
               clear c55
               have H' := Aside0.mk H
               clear H
               have hnb58 := NB677_678.out
               have hnc58 := NB678_677.out
               have hcz59_0 : wc.cell? ⟨gb677, 0, none⟩ = some (.int .i64 a0_0) := (blk_cell BK677.out 0).trans rfl
               have hcz59_1 : wc.cell? ⟨gb677, 1, none⟩ = some (.int .i64 a0_1) := (blk_cell BK677.out 1).trans rfl
               have hcz59_2 : wc.cell? ⟨gb677, 2, none⟩ = some (.int .u8 a0_2) := (blk_cell BK677.out 2).trans rfl
               have hcz59_3 : wc.cell? ⟨gb677, 3, none⟩ = some (.int .i64 a0_3) := (blk_cell BK677.out 3).trans rfl
               have hcz59_4 : wc.cell? ⟨gb677, 4, none⟩ = some (.int .i64 a0_4) := (blk_cell BK677.out 4).trans rfl
               have hfz59_0 := blk_frozen BK677.out 0
               have hfz59_1 := blk_frozen BK677.out 1
               have hfz59_2 := blk_frozen BK677.out 2
               have hfz59_3 := blk_frozen BK677.out 3
               have hfz59_4 := blk_frozen BK677.out 4
               go_wp2_with (first | ((with_reducible refine gate_callee (f := 112) rfl ?_); refine goesL_ (some 77) rfl rfl Try.func112 (by kernel_rfl) rfl #[.int .u64 2251799864016896, .int .u8 a0_2] rfl (by (try simp only [List.map_toArray, List.map_cons, List.map_nil]); first | done | rfl | (simp only [List.length_drop, List.length_take]; rfl)) ?_; (with_reducible refine (rela_set_has.calls 2251799864016896 a0_2 true _ A48.out).mono ?_); rintro e w' ⟨rfl, ⟨nd, rfl⟩⟩; refine ⟨_, rfl, ?_⟩))
               go_meet
               case rel => exact ⟨_, (((Go.bits .and .i64 a0_4 1) == 1)), (by first | rfl | (simp; done) | (simp [*]; done)), H', ⟨by have := HJ5.out; have := HJ17.out; have := HJ35.out; first | omega | exact Nat.le_refl _⟩, ⟨by (with_reducible repeat (first | refine blk_drewN ?_ _ | refine blk_drew ?_ | refine blk_alloc ?_ _)); exact BK677.out⟩, ⟨by (with_reducible repeat (first | refine blk_drewN ?_ _ | refine blk_drew ?_ | refine blk_alloc ?_ _)); exact BK678.out⟩, ⟨by repeat (first | (with_reducible first | exact HB.out | apply below_alloc | apply pw_below_drewN | apply below_drew1 | refine below_set ?_ GE677.out | refine below_set ?_ GE678.out) | exact HB.out)⟩⟩
            ·
             rw [if_neg c51] at H
             have c51b0 : (a0_2 == 43) = false := beq_eq_false_iff_ne.mpr c51
             have c51b1 : (a0_2 != 43) = true := bne_iff_ne.mpr c51
             have H' := Aside0.mk H
             clear H
             have hnb60 := NB677_678.out
             have hnc60 := NB678_677.out
             have hcz61_0 : wc.cell? ⟨gb677, 0, none⟩ = some (.int .i64 a0_0) := (blk_cell BK677.out 0).trans rfl
             have hcz61_1 : wc.cell? ⟨gb677, 1, none⟩ = some (.int .i64 a0_1) := (blk_cell BK677.out 1).trans rfl
             have hcz61_2 : wc.cell? ⟨gb677, 2, none⟩ = some (.int .u8 a0_2) := (blk_cell BK677.out 2).trans rfl
             have hcz61_3 : wc.cell? ⟨gb677, 3, none⟩ = some (.int .i64 a0_3) := (blk_cell BK677.out 3).trans rfl
             have hcz61_4 : wc.cell? ⟨gb677, 4, none⟩ = some (.int .i64 a0_4) := (blk_cell BK677.out 4).trans rfl
             have hfz61_0 := blk_frozen BK677.out 0
             have hfz61_1 := blk_frozen BK677.out 1
             have hfz61_2 := blk_frozen BK677.out 2
             have hfz61_3 := blk_frozen BK677.out 3
             have hfz61_4 := blk_frozen BK677.out 4
             go_wp2_with (first | ((with_reducible refine gate_callee (f := 112) rfl ?_); refine goesL_ (some 77) rfl rfl Try.func112 (by kernel_rfl) rfl #[.int .u64 2251799864016896, .int .u8 a0_2] rfl (by (try simp only [List.map_toArray, List.map_cons, List.map_nil]); first | done | rfl | (simp only [List.length_drop, List.length_take]; rfl)) ?_; (with_reducible refine (rela_set_has.calls 2251799864016896 a0_2 true _ A48.out).mono ?_); rintro e w' ⟨rfl, ⟨nd, rfl⟩⟩; refine ⟨_, rfl, ?_⟩))
             go_meet
             case rel => exact ⟨_, (false), (by first | rfl | (simp; done) | (simp [*]; done)), H', ⟨by have := HJ5.out; have := HJ17.out; have := HJ35.out; first | omega | exact Nat.le_refl _⟩, ⟨by (with_reducible repeat (first | refine blk_drewN ?_ _ | refine blk_drew ?_ | refine blk_alloc ?_ _)); exact BK677.out⟩, ⟨by (with_reducible repeat (first | refine blk_drewN ?_ _ | refine blk_drew ?_ | refine blk_alloc ?_ _)); exact BK678.out⟩, ⟨by repeat (first | (with_reducible first | exact HB.out | apply below_alloc | apply pw_below_drewN | apply below_drew1 | refine below_set ?_ GE677.out | refine below_set ?_ GE678.out) | exact HB.out)⟩⟩
           ·
            rw [if_neg c50] at H
            have c50b0 : (a0_4 == 0) = false := beq_eq_false_iff_ne.mpr c50
            have c50b1 : (a0_4 != 0) = true := bne_iff_ne.mpr c50
            (first | rw [c50b0] | (simp only [i64_w, i32_w]; rw [c50b0]) | skip)
            have H' := Aside0.mk H
            clear H
            have hnb62 := NB677_678.out
            have hnc62 := NB678_677.out
            have hcz63_0 : wc.cell? ⟨gb677, 0, none⟩ = some (.int .i64 a0_0) := (blk_cell BK677.out 0).trans rfl
            have hcz63_1 : wc.cell? ⟨gb677, 1, none⟩ = some (.int .i64 a0_1) := (blk_cell BK677.out 1).trans rfl
            have hcz63_2 : wc.cell? ⟨gb677, 2, none⟩ = some (.int .u8 a0_2) := (blk_cell BK677.out 2).trans rfl
            have hcz63_3 : wc.cell? ⟨gb677, 3, none⟩ = some (.int .i64 a0_3) := (blk_cell BK677.out 3).trans rfl
            have hcz63_4 : wc.cell? ⟨gb677, 4, none⟩ = some (.int .i64 a0_4) := (blk_cell BK677.out 4).trans rfl
            have hfz63_0 := blk_frozen BK677.out 0
            have hfz63_1 := blk_frozen BK677.out 1
            have hfz63_2 := blk_frozen BK677.out 2
            have hfz63_3 := blk_frozen BK677.out 3
            have hfz63_4 := blk_frozen BK677.out 4
            go_wp2_with (first | ((with_reducible refine gate_callee (f := 112) rfl ?_); refine goesL_ (some 77) rfl rfl Try.func112 (by kernel_rfl) rfl #[.int .u64 2251799864016896, .int .u8 a0_2] rfl (by (try simp only [List.map_toArray, List.map_cons, List.map_nil]); first | done | rfl | (simp only [List.length_drop, List.length_take]; rfl)) ?_; (with_reducible refine (rela_set_has.calls 2251799864016896 a0_2 true _ A48.out).mono ?_); rintro e w' ⟨rfl, ⟨nd, rfl⟩⟩; refine ⟨_, rfl, ?_⟩))
            go_meet
            case rel => exact ⟨_, (true), (by first | rfl | (simp; done) | (simp [*]; done)), H', ⟨by have := HJ5.out; have := HJ17.out; have := HJ35.out; first | omega | exact Nat.le_refl _⟩, ⟨by (with_reducible repeat (first | refine blk_drewN ?_ _ | refine blk_drew ?_ | refine blk_alloc ?_ _)); exact BK677.out⟩, ⟨by (with_reducible repeat (first | refine blk_drewN ?_ _ | refine blk_drew ?_ | refine blk_alloc ?_ _)); exact BK678.out⟩, ⟨by repeat (first | (with_reducible first | exact HB.out | apply below_alloc | apply pw_below_drewN | apply below_drew1 | refine below_set ?_ GE677.out | refine below_set ?_ GE678.out) | exact HB.out)⟩⟩
          ·
           replace c49 := Bool.eq_false_iff.mpr c49
           subst c49
           have H1 : (if a0_2 = 43 then (if a0_4 < 0 then (rela_may.j3 kj35 a2 true a0_0 a0_1 a0_2 a0_3 a0_4) else (if a0_4 > 62 then (rela_may.j3 kj35 a2 true a0_0 a0_1 a0_2 a0_3 a0_4) else (rela_may.j3 kj35 a2 ((Go.bits .and .i64 a0_4 1) == 1) a0_0 a0_1 a0_2 a0_3 a0_4))) else (rela_may.j3 kj35 a2 false a0_0 a0_1 a0_2 a0_3 a0_4)) = some r := by rw [if_neg (show ¬ (false = true) by decide)] at H; exact H
           clear H
           have H := H1
           clear H1
           by_cases c64 : a0_2 = 43
           ·
            rw [if_pos c64] at H
            have c64b0 : (a0_2 == 43) = true := beq_iff_eq.mpr c64
            have c64b1 : (a0_2 != 43) = false := bne_eq_false_iff_eq.mpr c64
            clear c64
            by_cases c65 : a0_4 < 0
            ·
             rw [if_pos c65] at H
             have c65b0 : decide (a0_4 < 0) = true := decide_eq_true c65
             clear c65
             have H' := Aside0.mk H
             clear H
             have hnb66 := NB677_678.out
             have hnc66 := NB678_677.out
             have hcz67_0 : wc.cell? ⟨gb677, 0, none⟩ = some (.int .i64 a0_0) := (blk_cell BK677.out 0).trans rfl
             have hcz67_1 : wc.cell? ⟨gb677, 1, none⟩ = some (.int .i64 a0_1) := (blk_cell BK677.out 1).trans rfl
             have hcz67_2 : wc.cell? ⟨gb677, 2, none⟩ = some (.int .u8 a0_2) := (blk_cell BK677.out 2).trans rfl
             have hcz67_3 : wc.cell? ⟨gb677, 3, none⟩ = some (.int .i64 a0_3) := (blk_cell BK677.out 3).trans rfl
             have hcz67_4 : wc.cell? ⟨gb677, 4, none⟩ = some (.int .i64 a0_4) := (blk_cell BK677.out 4).trans rfl
             have hfz67_0 := blk_frozen BK677.out 0
             have hfz67_1 := blk_frozen BK677.out 1
             have hfz67_2 := blk_frozen BK677.out 2
             have hfz67_3 := blk_frozen BK677.out 3
             have hfz67_4 := blk_frozen BK677.out 4
             go_wp2_with (first | ((with_reducible refine gate_callee (f := 112) rfl ?_); refine goesL_ (some 77) rfl rfl Try.func112 (by kernel_rfl) rfl #[.int .u64 2251799864016896, .int .u8 a0_2] rfl (by (try simp only [List.map_toArray, List.map_cons, List.map_nil]); first | done | rfl | (simp only [List.length_drop, List.length_take]; rfl)) ?_; (with_reducible refine (rela_set_has.calls 2251799864016896 a0_2 false _ A48.out).mono ?_); rintro e w' ⟨rfl, ⟨nd, rfl⟩⟩; refine ⟨_, rfl, ?_⟩))
             go_meet
             case rel => exact ⟨_, (true), (by first | rfl | (simp; done) | (simp [*]; done)), H', ⟨by have := HJ5.out; have := HJ17.out; have := HJ35.out; first | omega | exact Nat.le_refl _⟩, ⟨by (with_reducible repeat (first | refine blk_drewN ?_ _ | refine blk_drew ?_ | refine blk_alloc ?_ _)); exact BK677.out⟩, ⟨by (with_reducible repeat (first | refine blk_drewN ?_ _ | refine blk_drew ?_ | refine blk_alloc ?_ _)); exact BK678.out⟩, ⟨by repeat (first | (with_reducible first | exact HB.out | apply below_alloc | apply pw_below_drewN | apply below_drew1 | refine below_set ?_ GE677.out | refine below_set ?_ GE678.out) | exact HB.out)⟩⟩
            ·
             rw [if_neg c65] at H
             have c65b0 : decide (a0_4 < 0) = false := decide_eq_false c65
             clear c65
             by_cases c68 : a0_4 > 62
             ·
              rw [if_pos c68] at H
              have c68b0 : decide (62 < a0_4) = true := decide_eq_true c68
              clear c68
              have H' := Aside0.mk H
              clear H
              have hnb69 := NB677_678.out
              have hnc69 := NB678_677.out
              have hcz70_0 : wc.cell? ⟨gb677, 0, none⟩ = some (.int .i64 a0_0) := (blk_cell BK677.out 0).trans rfl
              have hcz70_1 : wc.cell? ⟨gb677, 1, none⟩ = some (.int .i64 a0_1) := (blk_cell BK677.out 1).trans rfl
              have hcz70_2 : wc.cell? ⟨gb677, 2, none⟩ = some (.int .u8 a0_2) := (blk_cell BK677.out 2).trans rfl
              have hcz70_3 : wc.cell? ⟨gb677, 3, none⟩ = some (.int .i64 a0_3) := (blk_cell BK677.out 3).trans rfl
              have hcz70_4 : wc.cell? ⟨gb677, 4, none⟩ = some (.int .i64 a0_4) := (blk_cell BK677.out 4).trans rfl
              have hfz70_0 := blk_frozen BK677.out 0
              have hfz70_1 := blk_frozen BK677.out 1
              have hfz70_2 := blk_frozen BK677.out 2
              have hfz70_3 := blk_frozen BK677.out 3
              have hfz70_4 := blk_frozen BK677.out 4
              go_wp2_with (first | ((with_reducible refine gate_callee (f := 112) rfl ?_); refine goesL_ (some 77) rfl rfl Try.func112 (by kernel_rfl) rfl #[.int .u64 2251799864016896, .int .u8 a0_2] rfl (by (try simp only [List.map_toArray, List.map_cons, List.map_nil]); first | done | rfl | (simp only [List.length_drop, List.length_take]; rfl)) ?_; (with_reducible refine (rela_set_has.calls 2251799864016896 a0_2 false _ A48.out).mono ?_); rintro e w' ⟨rfl, ⟨nd, rfl⟩⟩; refine ⟨_, rfl, ?_⟩))
              go_meet
              case rel => exact ⟨_, (true), (by first | rfl | (simp; done) | (simp [*]; done)), H', ⟨by have := HJ5.out; have := HJ17.out; have := HJ35.out; first | omega | exact Nat.le_refl _⟩, ⟨by (with_reducible repeat (first | refine blk_drewN ?_ _ | refine blk_drew ?_ | refine blk_alloc ?_ _)); exact BK677.out⟩, ⟨by (with_reducible repeat (first | refine blk_drewN ?_ _ | refine blk_drew ?_ | refine blk_alloc ?_ _)); exact BK678.out⟩, ⟨by repeat (first | (with_reducible first | exact HB.out | apply below_alloc | apply pw_below_drewN | apply below_drew1 | refine below_set ?_ GE677.out | refine below_set ?_ GE678.out) | exact HB.out)⟩⟩
             ·
              rw [if_neg c68] at H
              have c68b0 : decide (62 < a0_4) = false := decide_eq_false c68
              clear c68
              have H' := Aside0.mk H
              clear H
              have hnb71 := NB677_678.out
              have hnc71 := NB678_677.out
              have hcz72_0 : wc.cell? ⟨gb677, 0, none⟩ = some (.int .i64 a0_0) := (blk_cell BK677.out 0).trans rfl
              have hcz72_1 : wc.cell? ⟨gb677, 1, none⟩ = some (.int .i64 a0_1) := (blk_cell BK677.out 1).trans rfl
              have hcz72_2 : wc.cell? ⟨gb677, 2, none⟩ = some (.int .u8 a0_2) := (blk_cell BK677.out 2).trans rfl
              have hcz72_3 : wc.cell? ⟨gb677, 3, none⟩ = some (.int .i64 a0_3) := (blk_cell BK677.out 3).trans rfl
              have hcz72_4 : wc.cell? ⟨gb677, 4, none⟩ = some (.int .i64 a0_4) := (blk_cell BK677.out 4).trans rfl
              have hfz72_0 := blk_frozen BK677.out 0
              have hfz72_1 := blk_frozen BK677.out 1
              have hfz72_2 := blk_frozen BK677.out 2
              have hfz72_3 := blk_frozen BK677.out 3
              have hfz72_4 := blk_frozen BK677.out 4
              go_wp2_with (first | ((with_reducible refine gate_callee (f := 112) rfl ?_); refine goesL_ (some 77) rfl rfl Try.func112 (by kernel_rfl) rfl #[.int .u64 2251799864016896, .int .u8 a0_2] rfl (by (try simp only [List.map_toArray, List.map_cons, List.map_nil]); first | done | rfl | (simp only [List.length_drop, List.length_take]; rfl)) ?_; (with_reducible refine (rela_set_has.calls 2251799864016896 a0_2 false _ A48.out).mono ?_); rintro e w' ⟨rfl, ⟨nd, rfl⟩⟩; refine ⟨_, rfl, ?_⟩))
              go_meet
              case rel => exact ⟨_, (((Go.bits .and .i64 a0_4 1) == 1)), (by first | rfl | (simp; done) | (simp [*]; done)), H', ⟨by have := HJ5.out; have := HJ17.out; have := HJ35.out; first | omega | exact Nat.le_refl _⟩, ⟨by (with_reducible repeat (first | refine blk_drewN ?_ _ | refine blk_drew ?_ | refine blk_alloc ?_ _)); exact BK677.out⟩, ⟨by (with_reducible repeat (first | refine blk_drewN ?_ _ | refine blk_drew ?_ | refine blk_alloc ?_ _)); exact BK678.out⟩, ⟨by repeat (first | (with_reducible first | exact HB.out | apply below_alloc | apply pw_below_drewN | apply below_drew1 | refine below_set ?_ GE677.out | refine below_set ?_ GE678.out) | exact HB.out)⟩⟩
           ·
            rw [if_neg c64] at H
            have c64b0 : (a0_2 == 43) = false := beq_eq_false_iff_ne.mpr c64
            have c64b1 : (a0_2 != 43) = true := bne_iff_ne.mpr c64
            have H' := Aside0.mk H
            clear H
            have hnb73 := NB677_678.out
            have hnc73 := NB678_677.out
            have hcz74_0 : wc.cell? ⟨gb677, 0, none⟩ = some (.int .i64 a0_0) := (blk_cell BK677.out 0).trans rfl
            have hcz74_1 : wc.cell? ⟨gb677, 1, none⟩ = some (.int .i64 a0_1) := (blk_cell BK677.out 1).trans rfl
            have hcz74_2 : wc.cell? ⟨gb677, 2, none⟩ = some (.int .u8 a0_2) := (blk_cell BK677.out 2).trans rfl
            have hcz74_3 : wc.cell? ⟨gb677, 3, none⟩ = some (.int .i64 a0_3) := (blk_cell BK677.out 3).trans rfl
            have hcz74_4 : wc.cell? ⟨gb677, 4, none⟩ = some (.int .i64 a0_4) := (blk_cell BK677.out 4).trans rfl
            have hfz74_0 := blk_frozen BK677.out 0
            have hfz74_1 := blk_frozen BK677.out 1
            have hfz74_2 := blk_frozen BK677.out 2
            have hfz74_3 := blk_frozen BK677.out 3
            have hfz74_4 := blk_frozen BK677.out 4
            go_wp2_with (first | ((with_reducible refine gate_callee (f := 112) rfl ?_); refine goesL_ (some 77) rfl rfl Try.func112 (by kernel_rfl) rfl #[.int .u64 2251799864016896, .int .u8 a0_2] rfl (by (try simp only [List.map_toArray, List.map_cons, List.map_nil]); first | done | rfl | (simp only [List.length_drop, List.length_take]; rfl)) ?_; (with_reducible refine (rela_set_has.calls 2251799864016896 a0_2 false _ A48.out).mono ?_); rintro e w' ⟨rfl, ⟨nd, rfl⟩⟩; refine ⟨_, rfl, ?_⟩))
            go_meet
            case rel => exact ⟨_, (false), (by first | rfl | (simp; done) | (simp [*]; done)), H', ⟨by have := HJ5.out; have := HJ17.out; have := HJ35.out; first | omega | exact Nat.le_refl _⟩, ⟨by (with_reducible repeat (first | refine blk_drewN ?_ _ | refine blk_drew ?_ | refine blk_alloc ?_ _)); exact BK677.out⟩, ⟨by (with_reducible repeat (first | refine blk_drewN ?_ _ | refine blk_drew ?_ | refine blk_alloc ?_ _)); exact BK678.out⟩, ⟨by repeat (first | (with_reducible first | exact HB.out | apply below_alloc | apply pw_below_drewN | apply below_drew1 | refine below_set ?_ GE677.out | refine below_set ?_ GE678.out) | exact HB.out)⟩⟩
         case rest =>
          clear HC47
          try clear c1
          try clear c2
          try clear p2
          try clear c3
          try clear c4
          try clear c5
          try clear c6
          try clear p6
          try clear c7
          try clear c9
          try clear c11
          try clear c14
          try clear c14b0
          try clear c14b1
          try clear c16
          try clear c19
          try clear c19b0
          try clear c19b1
          try clear c20
          try clear c20b0
          try clear c20b1
          try clear c21
          try clear c21b0
          try clear c22
          try clear c24
          try clear c24b0
          try clear c25
          try clear c28
          try clear c28b0
          try clear c29
          try clear c32
          try clear c35
          try clear c38
          try clear c39
          try clear c41
          try clear c41b0
          try clear c41b1
          try clear c42
          try clear c44
          try clear c46
          try clear c49
          try clear c50
          try clear c50b0
          try clear c50b1
          try clear c51
          try clear c51b0
          try clear c51b1
          try clear c52
          try clear c52b0
          try clear c53
          try clear c55
          try clear c55b0
          try clear c56
          try clear c58
          try clear c60
          try clear c62
          try clear c64
          try clear c64b0
          try clear c64b1
          try clear c65
          try clear c65b0
          try clear c66
          try clear c68
          try clear c68b0
          try clear c69
          try clear c71
          try clear c73
          try clear hcz10_0
          try clear hcz10_1
          try clear hcz10_2
          try clear hcz10_3
          try clear hcz10_4
          try clear hcz11_0
          try clear hcz11_1
          try clear hcz11_2
          try clear hcz11_3
          try clear hcz13_0
          try clear hcz13_1
          try clear hcz13_2
          try clear hcz13_3
          try clear hcz13_4
          try clear hcz17_0
          try clear hcz17_1
          try clear hcz17_2
          try clear hcz17_3
          try clear hcz17_4
          try clear hcz23_0
          try clear hcz23_1
          try clear hcz23_2
          try clear hcz23_3
          try clear hcz23_4
          try clear hcz26_0
          try clear hcz26_1
          try clear hcz26_2
          try clear hcz26_3
          try clear hcz26_4
          try clear hcz27_0
          try clear hcz27_1
          try clear hcz27_2
          try clear hcz27_3
          try clear hcz30_0
          try clear hcz30_1
          try clear hcz30_2
          try clear hcz30_3
          try clear hcz30_4
          try clear hcz31_0
          try clear hcz31_1
          try clear hcz31_2
          try clear hcz31_3
          try clear hcz33_0
          try clear hcz33_1
          try clear hcz33_2
          try clear hcz33_3
          try clear hcz33_4
          try clear hcz34_0
          try clear hcz34_1
          try clear hcz34_2
          try clear hcz34_3
          try clear hcz40_0
          try clear hcz40_1
          try clear hcz40_2
          try clear hcz40_3
          try clear hcz40_4
          try clear hcz43_0
          try clear hcz43_1
          try clear hcz43_2
          try clear hcz43_3
          try clear hcz43_4
          try clear hcz45_0
          try clear hcz45_1
          try clear hcz45_2
          try clear hcz45_3
          try clear hcz45_4
          try clear hcz54_0
          try clear hcz54_1
          try clear hcz54_2
          try clear hcz54_3
          try clear hcz54_4
          try clear hcz57_0
          try clear hcz57_1
          try clear hcz57_2
          try clear hcz57_3
          try clear hcz57_4
          try clear hcz59_0
          try clear hcz59_1
          try clear hcz59_2
          try clear hcz59_3
          try clear hcz59_4
          try clear hcz61_0
          try clear hcz61_1
          try clear hcz61_2
          try clear hcz61_3
          try clear hcz61_4
          try clear hcz63_0
          try clear hcz63_1
          try clear hcz63_2
          try clear hcz63_3
          try clear hcz63_4
          try clear hcz67_0
          try clear hcz67_1
          try clear hcz67_2
          try clear hcz67_3
          try clear hcz67_4
          try clear hcz70_0
          try clear hcz70_1
          try clear hcz70_2
          try clear hcz70_3
          try clear hcz70_4
          try clear hcz72_0
          try clear hcz72_1
          try clear hcz72_2
          try clear hcz72_3
          try clear hcz72_4
          try clear hcz74_0
          try clear hcz74_1
          try clear hcz74_2
          try clear hcz74_3
          try clear hcz74_4
          try clear hfz10_0
          try clear hfz10_1
          try clear hfz10_2
          try clear hfz10_3
          try clear hfz10_4
          try clear hfz11_0
          try clear hfz11_1
          try clear hfz11_2
          try clear hfz11_3
          try clear hfz13_0
          try clear hfz13_1
          try clear hfz13_2
          try clear hfz13_3
          try clear hfz13_4
          try clear hfz17_0
          try clear hfz17_1
          try clear hfz17_2
          try clear hfz17_3
          try clear hfz17_4
          try clear hfz23_0
          try clear hfz23_1
          try clear hfz23_2
          try clear hfz23_3
          try clear hfz23_4
          try clear hfz26_0
          try clear hfz26_1
          try clear hfz26_2
          try clear hfz26_3
          try clear hfz26_4
          try clear hfz27_0
          try clear hfz27_1
          try clear hfz27_2
          try clear hfz27_3
          try clear hfz30_0
          try clear hfz30_1
          try clear hfz30_2
          try clear hfz30_3
          try clear hfz30_4
          try clear hfz31_0
          try clear hfz31_1
          try clear hfz31_2
          try clear hfz31_3
          try clear hfz33_0
          try clear hfz33_1
          try clear hfz33_2
          try clear hfz33_3
          try clear hfz33_4
          try clear hfz34_0
          try clear hfz34_1
          try clear hfz34_2
          try clear hfz34_3
          try clear hfz40_0
          try clear hfz40_1
          try clear hfz40_2
          try clear hfz40_3
          try clear hfz40_4
          try clear hfz43_0
          try clear hfz43_1
          try clear hfz43_2
          try clear hfz43_3
          try clear hfz43_4
          try clear hfz45_0
          try clear hfz45_1
          try clear hfz45_2
          try clear hfz45_3
          try clear hfz45_4
          try clear hfz54_0
          try clear hfz54_1
          try clear hfz54_2
          try clear hfz54_3
          try clear hfz54_4
          try clear hfz57_0
          try clear hfz57_1
          try clear hfz57_2
          try clear hfz57_3
          try clear hfz57_4
          try clear hfz59_0
          try clear hfz59_1
          try clear hfz59_2
          try clear hfz59_3
          try clear hfz59_4
          try clear hfz61_0
          try clear hfz61_1
          try clear hfz61_2
          try clear hfz61_3
          try clear hfz61_4
          try clear hfz63_0
          try clear hfz63_1
          try clear hfz63_2
          try clear hfz63_3
          try clear hfz63_4
          try clear hfz67_0
          try clear hfz67_1
          try clear hfz67_2
          try clear hfz67_3
          try clear hfz67_4
          try clear hfz70_0
          try clear hfz70_1
          try clear hfz70_2
          try clear hfz70_3
          try clear hfz70_4
          try clear hfz72_0
          try clear hfz72_1
          try clear hfz72_2
          try clear hfz72_3
          try clear hfz72_4
          try clear hfz74_0
          try clear hfz74_1
          try clear hfz74_2
          try clear hfz74_3
          try clear hfz74_4
          try clear p2
          try clear p6
          obtain ⟨kq, x103_46, rfl, HA, HJ46, BK677, BK678, HB⟩ := hcut
          cases kq with
          | zero => exact absurd HA.out (by simp [rela_may.j3])
          | succ kj46 =>
           have H := HA.out
           clear HA
           simp only [rela_may.j3] at H
           by_cases c75 : x103_46 = true
           ·
            subst c75
            have H1 : (some false) = some r := by rw [if_pos rfl] at H; exact H
            clear H
            have H := H1
            clear H1
            obtain rfl := Option.some.inj H
            go_wp2
            go_ret
            exact ⟨by first | rfl | (simp [errW_none, errW_some] <;> rfl) | (simp [*, errW_none, errW_some] <;> rfl), by repeat (first | (with_reducible first | exact HB.out | apply below_alloc | apply pw_below_drewN | apply below_drew1 | refine below_set ?_ GE677.out | refine below_set ?_ GE678.out) | exact HB.out)⟩
           ·
            replace c75 := Bool.eq_false_iff.mpr c75
            subst c75
            have H1 : ((rela_set_has.f 2260595906707456 a0_2).bind fun t685 => (if t685 = true then (some (a0_3 == (-1))) else (if a0_3 ≥ 0 then (some (decide (a0_3 < a2))) else (some false)))) = some r := by rw [if_neg (show ¬ (false = true) by decide)] at H; exact H
            clear H
            have H := H1
            clear H1
            replace H := Option.bind_eq_some_iff.mp H
            obtain ⟨t685, A760, H⟩ := H
            replace H : (if t685 = true then (some (a0_3 == (-1))) else (if a0_3 ≥ 0 then (some (decide (a0_3 < a2))) else (some false))) = some r := H
            have A76 := Aside0.mk A760
            clear A760
            by_cases c77 : t685 = true
            ·
             subst c77
             have H1 : (some (a0_3 == (-1))) = some r := by rw [if_pos rfl] at H; exact H
             clear H
             have H := H1
             clear H1
             obtain rfl := Option.some.inj H
             have hnb78 := NB677_678.out
             have hnc78 := NB678_677.out
             have hcz79_0 : wc.cell? ⟨gb677, 0, none⟩ = some (.int .i64 a0_0) := (blk_cell BK677.out 0).trans rfl
             have hcz79_1 : wc.cell? ⟨gb677, 1, none⟩ = some (.int .i64 a0_1) := (blk_cell BK677.out 1).trans rfl
             have hcz79_2 : wc.cell? ⟨gb677, 2, none⟩ = some (.int .u8 a0_2) := (blk_cell BK677.out 2).trans rfl
             have hcz79_3 : wc.cell? ⟨gb677, 3, none⟩ = some (.int .i64 a0_3) := (blk_cell BK677.out 3).trans rfl
             have hcz79_4 : wc.cell? ⟨gb677, 4, none⟩ = some (.int .i64 a0_4) := (blk_cell BK677.out 4).trans rfl
             have hfz79_0 := blk_frozen BK677.out 0
             have hfz79_1 := blk_frozen BK677.out 1
             have hfz79_2 := blk_frozen BK677.out 2
             have hfz79_3 := blk_frozen BK677.out 3
             have hfz79_4 := blk_frozen BK677.out 4
             go_wp2_with (first | ((with_reducible refine gate_callee (f := 112) rfl ?_); refine goesL_ (some 106) rfl rfl Try.func112 (by kernel_rfl) rfl #[.int .u64 2260595906707456, .int .u8 a0_2] rfl (by (try simp only [List.map_toArray, List.map_cons, List.map_nil]); first | done | rfl | (simp only [List.length_drop, List.length_take]; rfl)) ?_; (with_reducible refine (rela_set_has.calls 2260595906707456 a0_2 true _ A76.out).mono ?_); rintro e w' ⟨rfl, ⟨nd, rfl⟩⟩; refine ⟨_, rfl, ?_⟩))
             go_ret
             exact ⟨by first | rfl | (simp [errW_none, errW_some] <;> rfl) | (simp [*, errW_none, errW_some] <;> rfl), by repeat (first | (with_reducible first | exact HB.out | apply below_alloc | apply pw_below_drewN | apply below_drew1 | refine below_set ?_ GE677.out | refine below_set ?_ GE678.out) | exact HB.out)⟩
            ·
             replace c77 := Bool.eq_false_iff.mpr c77
             subst c77
             have H1 : (if a0_3 ≥ 0 then (some (decide (a0_3 < a2))) else (some false)) = some r := by rw [if_neg (show ¬ (false = true) by decide)] at H; exact H
             clear H
             have H := H1
             clear H1
             by_cases c80 : a0_3 ≥ 0
             ·
              rw [if_pos c80] at H
              have c80b0 : decide (0 ≤ a0_3) = true := decide_eq_true c80
              clear c80
              obtain rfl := Option.some.inj H
              have hnb81 := NB677_678.out
              have hnc81 := NB678_677.out
              have hcz82_0 : wc.cell? ⟨gb677, 0, none⟩ = some (.int .i64 a0_0) := (blk_cell BK677.out 0).trans rfl
              have hcz82_1 : wc.cell? ⟨gb677, 1, none⟩ = some (.int .i64 a0_1) := (blk_cell BK677.out 1).trans rfl
              have hcz82_2 : wc.cell? ⟨gb677, 2, none⟩ = some (.int .u8 a0_2) := (blk_cell BK677.out 2).trans rfl
              have hcz82_3 : wc.cell? ⟨gb677, 3, none⟩ = some (.int .i64 a0_3) := (blk_cell BK677.out 3).trans rfl
              have hcz82_4 : wc.cell? ⟨gb677, 4, none⟩ = some (.int .i64 a0_4) := (blk_cell BK677.out 4).trans rfl
              have hfz82_0 := blk_frozen BK677.out 0
              have hfz82_1 := blk_frozen BK677.out 1
              have hfz82_2 := blk_frozen BK677.out 2
              have hfz82_3 := blk_frozen BK677.out 3
              have hfz82_4 := blk_frozen BK677.out 4
              go_wp2_with (first | ((with_reducible refine gate_callee (f := 112) rfl ?_); refine goesL_ (some 106) rfl rfl Try.func112 (by kernel_rfl) rfl #[.int .u64 2260595906707456, .int .u8 a0_2] rfl (by (try simp only [List.map_toArray, List.map_cons, List.map_nil]); first | done | rfl | (simp only [List.length_drop, List.length_take]; rfl)) ?_; (with_reducible refine (rela_set_has.calls 2260595906707456 a0_2 false _ A76.out).mono ?_); rintro e w' ⟨rfl, ⟨nd, rfl⟩⟩; refine ⟨_, rfl, ?_⟩))
              go_ret
              exact ⟨by first | rfl | (simp [errW_none, errW_some] <;> rfl) | (simp [*, errW_none, errW_some] <;> rfl), by repeat (first | (with_reducible first | exact HB.out | apply below_alloc | apply pw_below_drewN | apply below_drew1 | refine below_set ?_ GE677.out | refine below_set ?_ GE678.out) | exact HB.out)⟩
             ·
              rw [if_neg c80] at H
              have c80b0 : decide (0 ≤ a0_3) = false := decide_eq_false c80
              clear c80
              obtain rfl := Option.some.inj H
              have hnb83 := NB677_678.out
              have hnc83 := NB678_677.out
              have hcz84_0 : wc.cell? ⟨gb677, 0, none⟩ = some (.int .i64 a0_0) := (blk_cell BK677.out 0).trans rfl
              have hcz84_1 : wc.cell? ⟨gb677, 1, none⟩ = some (.int .i64 a0_1) := (blk_cell BK677.out 1).trans rfl
              have hcz84_2 : wc.cell? ⟨gb677, 2, none⟩ = some (.int .u8 a0_2) := (blk_cell BK677.out 2).trans rfl
              have hcz84_3 : wc.cell? ⟨gb677, 3, none⟩ = some (.int .i64 a0_3) := (blk_cell BK677.out 3).trans rfl
              have hcz84_4 : wc.cell? ⟨gb677, 4, none⟩ = some (.int .i64 a0_4) := (blk_cell BK677.out 4).trans rfl
              have hfz84_0 := blk_frozen BK677.out 0
              have hfz84_1 := blk_frozen BK677.out 1
              have hfz84_2 := blk_frozen BK677.out 2
              have hfz84_3 := blk_frozen BK677.out 3
              have hfz84_4 := blk_frozen BK677.out 4
              go_wp2_with (first | ((with_reducible refine gate_callee (f := 112) rfl ?_); refine goesL_ (some 106) rfl rfl Try.func112 (by kernel_rfl) rfl #[.int .u64 2260595906707456, .int .u8 a0_2] rfl (by (try simp only [List.map_toArray, List.map_cons, List.map_nil]); first | done | rfl | (simp only [List.length_drop, List.length_take]; rfl)) ?_; (with_reducible refine (rela_set_has.calls 2260595906707456 a0_2 false _ A76.out).mono ?_); rintro e w' ⟨rfl, ⟨nd, rfl⟩⟩; refine ⟨_, rfl, ?_⟩))
              go_ret
              exact ⟨by first | rfl | (simp [errW_none, errW_some] <;> rfl) | (simp [*, errW_none, errW_some] <;> rfl), by repeat (first | (with_reducible first | exact HB.out | apply below_alloc | apply pw_below_drewN | apply below_drew1 | refine below_set ?_ GE677.out | refine below_set ?_ GE678.out) | exact HB.out)⟩

end Go.Proofs.Ytomabnfeipobnaa.P
