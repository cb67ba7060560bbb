-- Written by pext.py, a program of this session, over the kit's print: a function's contract
import Derived.Test.YtdhkmaiidbomdafPx0
namespace Go.Proofs.Ytdhkmaiidbomdaf.P
open Go.RowKit Go.Proofs.YtdhkmaiidbomdafW.PrintWords Go.Proofs.YtdhkmaiidbomdafW.PrintLast Go.Proofs.YtdhkmaiidbomdafW.PrintMore
attribute [local go_sem] max2_int min2_int max_two min_two max_three min_three max_four min_four   -- for this text's walks alone
set_option linter.unusedVariables false
set_option linter.unusedSimpArgs false

/-! ### quoinlaw11_large: function 4 -/
def quoinlaw11_large.l0 : Nat → List (S44) → Int → Option (Bool)
 | 0, _, _ => none
 | k + 1, x0, x3 => if x3 < (x0.length : Int) then (if 0 ≤ x3 then (if (((rd_T44 x0 x3).f0).size : Int) > 1000 then (some true) else (if (((rd_T44 x0 x3).f2).length : Int) > 10000 then (some true) else (quoinlaw11_large.l0 k x0 (wrap64 (x3 + 1))))) else (none)) else (some false)
def quoinlaw11_large.f (k : Nat) (l0 : List (S44)) : Option (Bool) := quoinlaw11_large.l0 k l0 0
theorem quoinlaw11_large.mono_l : ∀ k, (∀ y0 y1, LeO (quoinlaw11_large.l0 k y0 y1) (quoinlaw11_large.l0 (k + 1) y0 y1))
 | 0 => fun _ _ r h => by simp [quoinlaw11_large.l0] at h
 | k + 1 => by
  have ih0 := quoinlaw11_large.mono_l k
  ·
   intro y0 y1
   unfold quoinlaw11_large.l0
   repeat' first
   | (with_reducible exact ih0 _ _)
   | (with_reducible exact LeO.refl _)
   | (with_reducible exact LeO.none _)
   | (with_reducible refine LeO.ite ?_ ?_)
   | (with_reducible refine LeO.bind ?_ (fun _ => ?_))
   | exact ih0 _ _
   | exact LeO.none _
   | refine LeO.ite ?_ ?_
   | refine LeO.bind ?_ (fun _ => ?_)
theorem quoinlaw11_large.mono : ∀ a0 k, LeO (quoinlaw11_large.f k a0) (quoinlaw11_large.f (k + 1) a0) := by
 intro a0 k
 have ih0 := quoinlaw11_large.mono_l k
 unfold quoinlaw11_large.f
 repeat' first
   | (with_reducible exact ih0 _ _)
   | (with_reducible exact LeO.refl _)
   | (with_reducible exact LeO.none _)
   | (with_reducible refine LeO.ite ?_ ?_)
   | (with_reducible refine LeO.bind ?_ (fun _ => ?_))
   | exact ih0 _ _
   | exact LeO.none _
   | refine LeO.ite ?_ ?_
   | refine LeO.bind ?_ (fun _ => ?_)
set_option maxHeartbeats 8000000 in
set_option maxRecDepth 100000 in
theorem quoinlaw11_large.calls (k : Nat) (A0 : Option Addr) (c0 : Nat) (l0 : List (S44)) (r : Bool) (w : World) (hr0 : Kd.C k44 w A0 l0.length l0) (hc0 : l0.length ≤ c0) (h : quoinlaw11_large.f k l0 = some r) :
  Calls Try.prog 4 #[.slice A0 l0.length c0] w fun e w' => e = .returned (.bool r) ∧ Drawn0 w w' := by
 have HR0 := Aside0.mk hr0
 have HC0 := Aside0.mk hc0
 clear hr0 hc0
 have H : (quoinlaw11_large.l0 k l0 0) = some r := h
 clear h
 have H' := Aside0.mk H
 clear H
 go_enter Try.func4, Try.ntmps4
 go_wp2
 go_loopg [3] k (fun kq v3 w' => ∃ (x3_1 : Int), v3 = .int .i64 x3_1 ∧ Aside0 (quoinlaw11_large.l0 kq l0 x3_1 = some r) ∧ Aside0 (kq ≤ k) ∧ Drawn0 w w')
 case atStart => exact ⟨(0), (by first | rfl | (simp; done) | (simp [*]; done)), H', ⟨Nat.le_refl _⟩, by repeat (first | exact Drawn0.refl _ | apply Drawn0.step)⟩
 case round =>
  clear H'
  obtain ⟨x3_1, rfl, HA, HK1, ⟨m1, rfl⟩⟩ := hrel
  cases gk with
  | zero => exact absurd HA.out (by simp [quoinlaw11_large.l0])
  | succ k1 =>
   have H := HA.out
   clear HA
   simp only [quoinlaw11_large.l0] at H
   by_cases c2 : x3_1 < (l0.length : Int)
   ·
    rw [if_pos c2] at H
    have c2b0 : decide (x3_1 < (l0.length : Int)) = true := decide_eq_true c2
    clear c2
    by_cases c3 : 0 ≤ x3_1
    ·
     rw [if_pos c3] at H
     have c3b0 : decide (0 ≤ x3_1) = true := decide_eq_true c3
     clear c3
     by_cases c4 : (((rd_T44 l0 x3_1).f0).size : Int) > 1000
     ·
      rw [if_pos c4] at H
      have c4b0 : decide (1000 < (((rd_T44 l0 x3_1).f0).size : Int)) = true := decide_eq_true c4
      have c4b1 : decide (1000 < ((rd_T44 l0 x3_1).f0).size) = true := decide_eq_true (by omega)
      clear c4
      obtain rfl := Option.some.inj H
      have p101 : 0 ≤ (x3_1 : Int) := of_decide_eq_true (by first | (with_reducible assumption) | assumption)
      have q101 : x3_1 < (l0.length : Int) := of_decide_eq_true (by first | (with_reducible assumption) | assumption)
      obtain ⟨ad101, A101_2, c101_2, e101, hx101_0, hx101_1, hx101_2, hx101_3, hl101_2, hi101_2⟩ := at_T44 HR0.out x3_1 p101 q101
      cases e101
      have HR101_2 := Aside0.mk hi101_2
      have HC101_2 := Aside0.mk hl101_2
      clear hi101_2 hl101_2
      replace p101 := eq_true p101
      replace q101 := eq_true q101
      go_wp2
      go_ret
      exact ⟨by first | rfl | (simp; done) | (simp [*]; done), by repeat (first | exact Drawn0.refl _ | apply Drawn0.step)⟩
     ·
      rw [if_neg c4] at H
      have c4b0 : decide (1000 < (((rd_T44 l0 x3_1).f0).size : Int)) = false := decide_eq_false c4
      have c4b1 : decide (1000 < ((rd_T44 l0 x3_1).f0).size) = false := decide_eq_false (by omega)
      clear c4
      by_cases c5 : (((rd_T44 l0 x3_1).f2).length : Int) > 10000
      ·
       rw [if_pos c5] at H
       have c5b0 : decide (10000 < (((rd_T44 l0 x3_1).f2).length : Int)) = true := decide_eq_true c5
       have c5b1 : decide (10000 < ((rd_T44 l0 x3_1).f2).length) = true := decide_eq_true (by omega)
       clear c5
       obtain rfl := Option.some.inj H
       have p101 : 0 ≤ (x3_1 : Int) := of_decide_eq_true (by first | (with_reducible assumption) | assumption)
       have q101 : x3_1 < (l0.length : Int) := of_decide_eq_true (by first | (with_reducible assumption) | assumption)
       obtain ⟨ad101, A101_2, c101_2, e101, hx101_0, hx101_1, hx101_2, hx101_3, hl101_2, hi101_2⟩ := at_T44 HR0.out x3_1 p101 q101
       cases e101
       have HR101_2 := Aside0.mk hi101_2
       have HC101_2 := Aside0.mk hl101_2
       clear hi101_2 hl101_2
       replace p101 := eq_true p101
       replace q101 := eq_true q101
       have p102 : 0 ≤ (x3_1 : Int) := of_decide_eq_true (by first | (with_reducible assumption) | assumption)
       have q102 : x3_1 < (l0.length : Int) := of_decide_eq_true (by first | (with_reducible assumption) | assumption)
       obtain ⟨ad102, A102_2, c102_2, e102, hx102_0, hx102_1, hx102_2, hx102_3, hl102_2, hi102_2⟩ := at_T44 HR0.out x3_1 p102 q102
       obtain rfl : ad101 = ad102 := (by injection e102)
       have HR102_2 := Aside0.mk hi102_2
       have HC102_2 := Aside0.mk hl102_2
       clear hi102_2 hl102_2
       replace p102 := eq_true p102
       replace q102 := eq_true q102
       have ea_ := Option.some.inj (hx101_2.symm.trans hx102_2)
       injection ea_ with ea_ en_ ec_
       subst ea_
       subst ec_
       clear en_
       go_wp2
       go_ret
       exact ⟨by first | rfl | (simp; done) | (simp [*]; done), by repeat (first | exact Drawn0.refl _ | apply Drawn0.step)⟩
      ·
       rw [if_neg c5] at H
       have c5b0 : decide (10000 < (((rd_T44 l0 x3_1).f2).length : Int)) = false := decide_eq_false c5
       have c5b1 : decide (10000 < ((rd_T44 l0 x3_1).f2).length) = false := decide_eq_false (by omega)
       clear c5
       have H' := Aside0.mk H
       clear H
       have p101 : 0 ≤ (x3_1 : Int) := of_decide_eq_true (by first | (with_reducible assumption) | assumption)
       have q101 : x3_1 < (l0.length : Int) := of_decide_eq_true (by first | (with_reducible assumption) | assumption)
       obtain ⟨ad101, A101_2, c101_2, e101, hx101_0, hx101_1, hx101_2, hx101_3, hl101_2, hi101_2⟩ := at_T44 HR0.out x3_1 p101 q101
       cases e101
       have HR101_2 := Aside0.mk hi101_2
       have HC101_2 := Aside0.mk hl101_2
       clear hi101_2 hl101_2
       replace p101 := eq_true p101
       replace q101 := eq_true q101
       have p102 : 0 ≤ (x3_1 : Int) := of_decide_eq_true (by first | (with_reducible assumption) | assumption)
       have q102 : x3_1 < (l0.length : Int) := of_decide_eq_true (by first | (with_reducible assumption) | assumption)
       obtain ⟨ad102, A102_2, c102_2, e102, hx102_0, hx102_1, hx102_2, hx102_3, hl102_2, hi102_2⟩ := at_T44 HR0.out x3_1 p102 q102
       obtain rfl : ad101 = ad102 := (by injection e102)
       have HR102_2 := Aside0.mk hi102_2
       have HC102_2 := Aside0.mk hl102_2
       clear hi102_2 hl102_2
       replace p102 := eq_true p102
       replace q102 := eq_true q102
       have ea_ := Option.some.inj (hx101_2.symm.trans hx102_2)
       injection ea_ with ea_ en_ ec_
       subst ea_
       subst ec_
       clear en_
       go_wp2
       go_roundg k1
       case measure => have := HK1.out; omega
       case rel => exact ⟨(wrap64 (x3_1 + 1)), (by first | rfl | (simp; done) | (simp [*]; done)), H', ⟨by have := HK1.out; omega⟩, by repeat (first | exact Drawn0.refl _ | apply Drawn0.step)⟩
    ·
     rw [if_neg c3] at H
     exact absurd H (by simp)
   ·
    rw [if_neg c2] at H
    have c2b0 : decide (x3_1 < (l0.length : Int)) = false := decide_eq_false c2
    clear c2
    obtain rfl := Option.some.inj H
    go_wp2
    go_ret
    exact ⟨by first | rfl | (simp; done) | (simp [*]; done), by repeat (first | exact Drawn0.refl _ | apply Drawn0.step)⟩

/-! ### rela_Field: function 5 -/
mutual
def rela_Field.j0 : Nat → Int → Bool → Option (Int × Int)
 | 0, _, _ => none
 | k + 1, x4, x5 => if x5 = true then (some (0, 0)) else (if x4 = 33 then (rela_Field.j1 k x4 (x4 == 33)) else (rela_Field.j1 k x4 (x4 == 37)))
def rela_Field.j1 : Nat → Int → Bool → Option (Int × Int)
 | 0, _, _ => none
 | k + 1, x4, x8 => if x8 = true then (some (1, 0)) else (if x4 = 34 then (rela_Field.j2 k x4 (x4 == 34)) else (if x4 = 38 then (rela_Field.j2 k x4 (x4 == 38)) else (if x4 = 44 then (rela_Field.j2 k x4 (x4 == 44)) else (rela_Field.j2 k x4 (x4 == 45)))))
def rela_Field.j2 : Nat → Int → Bool → Option (Int × Int)
 | 0, _, _ => none
 | k + 1, x4, x11 => if x11 = true then (some (2, 0)) else (if x4 = 2 then (rela_Field.j3 k x4 (x4 == 2)) else (if x4 = 36 then (rela_Field.j3 k x4 (x4 == 36)) else (if x4 = 40 then (rela_Field.j3 k x4 (x4 == 40)) else (rela_Field.j3 k x4 (x4 == 18)))))
def rela_Field.j3 : Nat → Int → Bool → Option (Int × Int)
 | 0, _, _ => none
 | k + 1, x4, x16 => if x16 = true then (some (8, 0)) else (if x4 = 1 then (some (4, 0)) else (if x4 = 16 then (some (4, 0)) else (if x4 = 17 then (some (4, 0)) else (if x4 = 23 then (some (4, 0)) else (if x4 = 24 then (some (4, 0)) else (if x4 = 25 then (some (4, 0)) else (if x4 = 26 then (some (4, 0)) else (if x4 = 27 then (some (4, 0)) else (if x4 = 28 then (some (4, 0)) else (if x4 = 35 then (some (4, 0)) else (if x4 = 39 then (some (4, 0)) else (some (0, 2)))))))))))))
end
def rela_Field.f (k : Nat) (a0 : Int) : Option (Int × Int) := if a0 = 43 then (rela_Field.j0 k a0 (a0 == 43)) else (rela_Field.j0 k a0 (a0 == 51))
theorem rela_Field.mono_l : ∀ k, (∀ y0 y1, LeO (rela_Field.j0 k y0 y1) (rela_Field.j0 (k + 1) y0 y1)) ∧ (∀ y0 y1, LeO (rela_Field.j1 k y0 y1) (rela_Field.j1 (k + 1) y0 y1)) ∧ (∀ y0 y1, LeO (rela_Field.j2 k y0 y1) (rela_Field.j2 (k + 1) y0 y1)) ∧ (∀ y0 y1, LeO (rela_Field.j3 k y0 y1) (rela_Field.j3 (k + 1) y0 y1))
 | 0 => ⟨fun _ _ r h => by simp [rela_Field.j0] at h, fun _ _ r h => by simp [rela_Field.j1] at h, fun _ _ r h => by simp [rela_Field.j2] at h, fun _ _ r h => by simp [rela_Field.j3] at h⟩
 | k + 1 => by
  obtain ⟨ih0, ih1, ih2, ih3⟩ := rela_Field.mono_l k
  refine ⟨?_, ?_, ?_, ?_⟩
  ·
   intro y0 y1
   unfold rela_Field.j0
   repeat' first
   | (with_reducible exact ih0 _ _)
   | (with_reducible exact ih1 _ _)
   | (with_reducible exact ih2 _ _)
   | (with_reducible exact ih3 _ _)
   | (with_reducible exact LeO.refl _)
   | (with_reducible exact LeO.none _)
   | (with_reducible refine LeO.ite ?_ ?_)
   | (with_reducible refine LeO.bind ?_ (fun _ => ?_))
   | exact ih0 _ _
   | exact ih1 _ _
   | exact ih2 _ _
   | exact ih3 _ _
   | exact LeO.none _
   | refine LeO.ite ?_ ?_
   | refine LeO.bind ?_ (fun _ => ?_)
  ·
   intro y0 y1
   unfold rela_Field.j1
   repeat' first
   | (with_reducible exact ih0 _ _)
   | (with_reducible exact ih1 _ _)
   | (with_reducible exact ih2 _ _)
   | (with_reducible exact ih3 _ _)
   | (with_reducible exact LeO.refl _)
   | (with_reducible exact LeO.none _)
   | (with_reducible refine LeO.ite ?_ ?_)
   | (with_reducible refine LeO.bind ?_ (fun _ => ?_))
   | exact ih0 _ _
   | exact ih1 _ _
   | exact ih2 _ _
   | exact ih3 _ _
   | exact LeO.none _
   | refine LeO.ite ?_ ?_
   | refine LeO.bind ?_ (fun _ => ?_)
  ·
   intro y0 y1
   unfold rela_Field.j2
   repeat' first
   | (with_reducible exact ih0 _ _)
   | (with_reducible exact ih1 _ _)
   | (with_reducible exact ih2 _ _)
   | (with_reducible exact ih3 _ _)
   | (with_reducible exact LeO.refl _)
   | (with_reducible exact LeO.none _)
   | (with_reducible refine LeO.ite ?_ ?_)
   | (with_reducible refine LeO.bind ?_ (fun _ => ?_))
   | exact ih0 _ _
   | exact ih1 _ _
   | exact ih2 _ _
   | exact ih3 _ _
   | exact LeO.none _
   | refine LeO.ite ?_ ?_
   | refine LeO.bind ?_ (fun _ => ?_)
  ·
   intro y0 y1
   unfold rela_Field.j3
   repeat' first
   | (with_reducible exact ih0 _ _)
   | (with_reducible exact ih1 _ _)
   | (with_reducible exact ih2 _ _)
   | (with_reducible exact ih3 _ _)
   | (with_reducible exact LeO.refl _)
   | (with_reducible exact LeO.none _)
   | (with_reducible refine LeO.ite ?_ ?_)
   | (with_reducible refine LeO.bind ?_ (fun _ => ?_))
   | exact ih0 _ _
   | exact ih1 _ _
   | exact ih2 _ _
   | exact ih3 _ _
   | exact LeO.none _
   | refine LeO.ite ?_ ?_
   | refine LeO.bind ?_ (fun _ => ?_)
theorem rela_Field.mono : ∀ a0 k, LeO (rela_Field.f k a0) (rela_Field.f (k + 1) a0) := by
 intro a0 k
 obtain ⟨ih0, ih1, ih2, ih3⟩ := rela_Field.mono_l k
 unfold rela_Field.f
 repeat' first
   | (with_reducible exact ih0 _ _)
   | (with_reducible exact ih1 _ _)
   | (with_reducible exact ih2 _ _)
   | (with_reducible exact ih3 _ _)
   | (with_reducible exact LeO.refl _)
   | (with_reducible exact LeO.none _)
   | (with_reducible refine LeO.ite ?_ ?_)
   | (with_reducible refine LeO.bind ?_ (fun _ => ?_))
   | exact ih0 _ _
   | exact ih1 _ _
   | exact ih2 _ _
   | exact ih3 _ _
   | exact LeO.none _
   | refine LeO.ite ?_ ?_
   | refine LeO.bind ?_ (fun _ => ?_)
set_option maxHeartbeats 8000000 in
set_option maxRecDepth 100000 in
theorem rela_Field.calls (k : Nat) (a0 : Int) (r1 : Int) (r2 : Int) (w : World) (h : rela_Field.f k a0 = some (r1, r2)) :
  Calls Try.prog 5 #[.int .u8 a0] w fun e w' => e = .returned (.tuple #[.int .i64 r1, .int .i64 r2]) ∧ Drawn0 w w' := by
 have H : (if a0 = 43 then (rela_Field.j0 k a0 (a0 == 43)) else (rela_Field.j0 k a0 (a0 == 51))) = some (r1, r2) := h
 clear h
 have HC2 := Aside0.mk H
 clear H
 go_enter Try.func5, Try.ntmps5
 go_upto_if 5 with (fail)
 go_cut [5] (fun v5 wc => ∃ (kq : Nat) (x5_1 : Bool), v5 = .bool x5_1 ∧ Aside0 (rela_Field.j0 kq a0 x5_1 = some (r1, r2)) ∧ Aside0 (kq ≤ k) ∧ Drawn0 w wc)
 case first =>
  have H := HC2.out
  clear HC2
  by_cases c3 : a0 = 43
  ·
   rw [if_pos c3] at H
   have c3b0 : (a0 == 43) = true := beq_iff_eq.mpr c3
   have c3b1 : (a0 != 43) = false := bne_eq_false_iff_eq.mpr c3
   clear c3
   (first | rw [c3b0] | (simp only [i64_w, i32_w]; rw [c3b0]) | skip)
   have H' := Aside0.mk H
   clear H
   go_wp2
   go_meet
   case rel => exact ⟨_, ((a0 == 43)), (by first | rfl | (simp; done) | (simp [*]; done)), H', ⟨by first | omega | exact Nat.le_refl _⟩, by repeat (first | exact Drawn0.refl _ | apply Drawn0.step)⟩
  ·
   rw [if_neg c3] at H
   have c3b0 : (a0 == 43) = false := beq_eq_false_iff_ne.mpr c3
   have c3b1 : (a0 != 43) = true := bne_iff_ne.mpr c3
   (first | rw [c3b0] | (simp only [i64_w, i32_w]; rw [c3b0]) | skip)
   have H' := Aside0.mk H
   clear H
   go_wp2
   go_meet
   case rel => exact ⟨_, ((a0 == 51)), (by first | rfl | (simp; done) | (simp [*]; done)), H', ⟨by first | omega | exact Nat.le_refl _⟩, by repeat (first | exact Drawn0.refl _ | apply Drawn0.step)⟩
 case rest =>
  clear HC2
  try clear p2
  try clear c3
  try clear c3b0
  try clear c3b1
  obtain ⟨kq, x5_1, rfl, HA, HJ1, ⟨mc1, rfl⟩⟩ := hcut
  cases kq with
  | zero => exact absurd HA.out (by simp [rela_Field.j0])
  | succ kj1 =>
   have H := HA.out
   clear HA
   simp only [rela_Field.j0] at H
   by_cases c4 : x5_1 = true
   ·
    subst c4
    have H1 : (some (0, 0)) = some (r1, r2) := by rw [if_pos rfl] at H; exact H
    clear H
    have H := H1
    clear H1
    simp only [Option.some.injEq, Prod.mk.injEq] at H
    obtain ⟨rfl, rfl⟩ := H
    go_wp2
    go_ret2
    exact ⟨by first | rfl | (simp; done) | (simp [*]; done), by repeat (first | exact Drawn0.refl _ | apply Drawn0.step)⟩
   ·
    replace c4 := Bool.eq_false_iff.mpr c4
    subst c4
    have H1 : (if a0 = 33 then (rela_Field.j1 kj1 a0 (a0 == 33)) else (rela_Field.j1 kj1 a0 (a0 == 37))) = some (r1, r2) := by rw [if_neg (show ¬ (false = true) by decide)] at H; exact H
    clear H
    have H := H1
    clear H1
    have HC5 := Aside0.mk H
    clear H
    go_upto_if 8 with (fail)
    go_cut [8] (fun v8 wc => ∃ (kq : Nat) (x8_4 : Bool), v8 = .bool x8_4 ∧ Aside0 (rela_Field.j1 kq a0 x8_4 = some (r1, r2)) ∧ Aside0 (kq ≤ kj1) ∧ Drawn0 w wc)
    case first =>
     have H := HC5.out
     clear HC5
     by_cases c6 : a0 = 33
     ·
      rw [if_pos c6] at H
      have c6b0 : (a0 == 33) = true := beq_iff_eq.mpr c6
      have c6b1 : (a0 != 33) = false := bne_eq_false_iff_eq.mpr c6
      clear c6
      (first | rw [c6b0] | (simp only [i64_w, i32_w]; rw [c6b0]) | skip)
      have H' := Aside0.mk H
      clear H
      go_wp2
      go_meet
      case rel => exact ⟨_, ((a0 == 33)), (by first | rfl | (simp; done) | (simp [*]; done)), H', ⟨by have := HJ1.out; first | omega | exact Nat.le_refl _⟩, by repeat (first | exact Drawn0.refl _ | apply Drawn0.step)⟩
     ·
      rw [if_neg c6] at H
      have c6b0 : (a0 == 33) = false := beq_eq_false_iff_ne.mpr c6
      have c6b1 : (a0 != 33) = true := bne_iff_ne.mpr c6
      (first | rw [c6b0] | (simp only [i64_w, i32_w]; rw [c6b0]) | skip)
      have H' := Aside0.mk H
      clear H
      go_wp2
      go_meet
      case rel => exact ⟨_, ((a0 == 37)), (by first | rfl | (simp; done) | (simp [*]; done)), H', ⟨by have := HJ1.out; first | omega | exact Nat.le_refl _⟩, by repeat (first | exact Drawn0.refl _ | apply Drawn0.step)⟩
    case rest =>
     clear HC5
     try clear c1
     try clear p2
     try clear c3
     try clear c3b0
     try clear c3b1
     try clear c4
     try clear c5
     try clear c6
     try clear c6b0
     try clear c6b1
     try clear p2
     obtain ⟨kq, x8_4, rfl, HA, HJ4, ⟨mc4, rfl⟩⟩ := hcut
     cases kq with
     | zero => exact absurd HA.out (by simp [rela_Field.j1])
     | succ kj4 =>
      have H := HA.out
      clear HA
      simp only [rela_Field.j1] at H
      by_cases c7 : x8_4 = true
      ·
       subst c7
       have H1 : (some (1, 0)) = some (r1, r2) := by rw [if_pos rfl] at H; exact H
       clear H
       have H := H1
       clear H1
       simp only [Option.some.injEq, Prod.mk.injEq] at H
       obtain ⟨rfl, rfl⟩ := H
       go_wp2
       go_ret2
       exact ⟨by first | rfl | (simp; done) | (simp [*]; done), by repeat (first | exact Drawn0.refl _ | apply Drawn0.step)⟩
      ·
       replace c7 := Bool.eq_false_iff.mpr c7
       subst c7
       have H1 : (if a0 = 34 then (rela_Field.j2 kj4 a0 (a0 == 34)) else (if a0 = 38 then (rela_Field.j2 kj4 a0 (a0 == 38)) else (if a0 = 44 then (rela_Field.j2 kj4 a0 (a0 == 44)) else (rela_Field.j2 kj4 a0 (a0 == 45))))) = some (r1, r2) := by rw [if_neg (show ¬ (false = true) by decide)] at H; exact H
       clear H
       have H := H1
       clear H1
       have HC8 := Aside0.mk H
       clear H
       go_upto_if 11 with (fail)
       go_cut [11] (fun v11 wc => ∃ (kq : Nat) (x11_7 : Bool), v11 = .bool x11_7 ∧ Aside0 (rela_Field.j2 kq a0 x11_7 = some (r1, r2)) ∧ Aside0 (kq ≤ kj4) ∧ Drawn0 w wc)
       case first =>
        have H := HC8.out
        clear HC8
        by_cases c9 : a0 = 34
        ·
         rw [if_pos c9] at H
         have c9b0 : (a0 == 34) = true := beq_iff_eq.mpr c9
         have c9b1 : (a0 != 34) = false := bne_eq_false_iff_eq.mpr c9
         clear c9
         (first | rw [c9b0] | (simp only [i64_w, i32_w]; rw [c9b0]) | skip)
         have H' := Aside0.mk H
         clear H
         go_wp2
         go_meet
         case rel => exact ⟨_, ((a0 == 34)), (by first | rfl | (simp; done) | (simp [*]; done)), H', ⟨by have := HJ1.out; have := HJ4.out; first | omega | exact Nat.le_refl _⟩, by repeat (first | exact Drawn0.refl _ | apply Drawn0.step)⟩
        ·
         rw [if_neg c9] at H
         have c9b0 : (a0 == 34) = false := beq_eq_false_iff_ne.mpr c9
         have c9b1 : (a0 != 34) = true := bne_iff_ne.mpr c9
         (first | rw [c9b0] | (simp only [i64_w, i32_w]; rw [c9b0]) | skip)
         by_cases c10 : a0 = 38
         ·
          rw [if_pos c10] at H
          have c10b0 : (a0 == 38) = true := beq_iff_eq.mpr c10
          have c10b1 : (a0 != 38) = false := bne_eq_false_iff_eq.mpr c10
          clear c10
          have H' := Aside0.mk H
          clear H
          go_wp2
          go_meet
          case rel => exact ⟨_, ((a0 == 38)), (by first | rfl | (simp; done) | (simp [*]; done)), H', ⟨by have := HJ1.out; have := HJ4.out; first | omega | exact Nat.le_refl _⟩, by repeat (first | exact Drawn0.refl _ | apply Drawn0.step)⟩
         ·
          rw [if_neg c10] at H
          have c10b0 : (a0 == 38) = false := beq_eq_false_iff_ne.mpr c10
          have c10b1 : (a0 != 38) = true := bne_iff_ne.mpr c10
          by_cases c11 : a0 = 44
          ·
           rw [if_pos c11] at H
           have c11b0 : (a0 == 44) = true := beq_iff_eq.mpr c11
           have c11b1 : (a0 != 44) = false := bne_eq_false_iff_eq.mpr c11
           clear c11
           have H' := Aside0.mk H
           clear H
           go_wp2
           go_meet
           case rel => exact ⟨_, ((a0 == 44)), (by first | rfl | (simp; done) | (simp [*]; done)), H', ⟨by have := HJ1.out; have := HJ4.out; first | omega | exact Nat.le_refl _⟩, by repeat (first | exact Drawn0.refl _ | apply Drawn0.step)⟩
          ·
           rw [if_neg c11] at H
           have c11b0 : (a0 == 44) = false := beq_eq_false_iff_ne.mpr c11
           have c11b1 : (a0 != 44) = true := bne_iff_ne.mpr c11
           have H' := Aside0.mk H
           clear H
           go_wp2
           go_meet
           case rel => exact ⟨_, ((a0 == 45)), (by first | rfl | (simp; done) | (simp [*]; done)), H', ⟨by have := HJ1.out; have := HJ4.out; first | omega | exact Nat.le_refl _⟩, by repeat (first | exact Drawn0.refl _ | apply Drawn0.step)⟩
       case rest =>
        clear HC8
        try clear c1
        try clear p2
        try clear c3
        try clear c3b0
        try clear c3b1
        try clear c4
        try clear c5
        try clear c6
        try clear c6b0
        try clear c6b1
        try clear c7
        try clear c9
        try clear c9b0
        try clear c9b1
        try clear c10
        try clear c10b0
        try clear c10b1
        try clear c11
        try clear c11b0
        try clear c11b1
        try clear p2
        obtain ⟨kq, x11_7, rfl, HA, HJ7, ⟨mc7, rfl⟩⟩ := hcut
        cases kq with
        | zero => exact absurd HA.out (by simp [rela_Field.j2])
        | succ kj7 =>
         have H := HA.out
         clear HA
         simp only [rela_Field.j2] at H
         by_cases c12 : x11_7 = true
         ·
          subst c12
          have H1 : (some (2, 0)) = some (r1, r2) := by rw [if_pos rfl] at H; exact H
          clear H
          have H := H1
          clear H1
          simp only [Option.some.injEq, Prod.mk.injEq] at H
          obtain ⟨rfl, rfl⟩ := H
          go_wp2
          go_ret2
          exact ⟨by first | rfl | (simp; done) | (simp [*]; done), by repeat (first | exact Drawn0.refl _ | apply Drawn0.step)⟩
         ·
          replace c12 := Bool.eq_false_iff.mpr c12
          subst c12
          have H1 : (if a0 = 2 then (rela_Field.j3 kj7 a0 (a0 == 2)) else (if a0 = 36 then (rela_Field.j3 kj7 a0 (a0 == 36)) else (if a0 = 40 then (rela_Field.j3 kj7 a0 (a0 == 40)) else (rela_Field.j3 kj7 a0 (a0 == 18))))) = some (r1, r2) := by rw [if_neg (show ¬ (false = true) by decide)] at H; exact H
          clear H
          have H := H1
          clear H1
          have HC13 := Aside0.mk H
          clear H
          go_upto_if 16 with (fail)
          go_cut [16] (fun v16 wc => ∃ (kq : Nat) (x16_12 : Bool), v16 = .bool x16_12 ∧ Aside0 (rela_Field.j3 kq a0 x16_12 = some (r1, r2)) ∧ Aside0 (kq ≤ kj7) ∧ Drawn0 w wc)
          case first =>
           have H := HC13.out
           clear HC13
           by_cases c14 : a0 = 2
           ·
            rw [if_pos c14] at H
            have c14b0 : (a0 == 2) = true := beq_iff_eq.mpr c14
            have c14b1 : (a0 != 2) = false := bne_eq_false_iff_eq.mpr c14
            clear c14
            (first | rw [c14b0] | (simp only [i64_w, i32_w]; rw [c14b0]) | skip)
            have H' := Aside0.mk H
            clear H
            go_wp2
            go_meet
            case rel => exact ⟨_, ((a0 == 2)), (by first | rfl | (simp; done) | (simp [*]; done)), H', ⟨by have := HJ1.out; have := HJ4.out; have := HJ7.out; first | omega | exact Nat.le_refl _⟩, by repeat (first | exact Drawn0.refl _ | apply Drawn0.step)⟩
           ·
            rw [if_neg c14] at H
            have c14b0 : (a0 == 2) = false := beq_eq_false_iff_ne.mpr c14
            have c14b1 : (a0 != 2) = true := bne_iff_ne.mpr c14
            (first | rw [c14b0] | (simp only [i64_w, i32_w]; rw [c14b0]) | skip)
            by_cases c15 : a0 = 36
            ·
             rw [if_pos c15] at H
             have c15b0 : (a0 == 36) = true := beq_iff_eq.mpr c15
             have c15b1 : (a0 != 36) = false := bne_eq_false_iff_eq.mpr c15
             clear c15
             have H' := Aside0.mk H
             clear H
             go_wp2
             go_meet
             case rel => exact ⟨_, ((a0 == 36)), (by first | rfl | (simp; done) | (simp [*]; done)), H', ⟨by have := HJ1.out; have := HJ4.out; have := HJ7.out; first | omega | exact Nat.le_refl _⟩, by repeat (first | exact Drawn0.refl _ | apply Drawn0.step)⟩
            ·
             rw [if_neg c15] at H
             have c15b0 : (a0 == 36) = false := beq_eq_false_iff_ne.mpr c15
             have c15b1 : (a0 != 36) = true := bne_iff_ne.mpr c15
             by_cases c16 : a0 = 40
             ·
              rw [if_pos c16] at H
              have c16b0 : (a0 == 40) = true := beq_iff_eq.mpr c16
              have c16b1 : (a0 != 40) = false := bne_eq_false_iff_eq.mpr c16
              clear c16
              have H' := Aside0.mk H
              clear H
              go_wp2
              go_meet
              case rel => exact ⟨_, ((a0 == 40)), (by first | rfl | (simp; done) | (simp [*]; done)), H', ⟨by have := HJ1.out; have := HJ4.out; have := HJ7.out; first | omega | exact Nat.le_refl _⟩, by repeat (first | exact Drawn0.refl _ | apply Drawn0.step)⟩
             ·
              rw [if_neg c16] at H
              have c16b0 : (a0 == 40) = false := beq_eq_false_iff_ne.mpr c16
              have c16b1 : (a0 != 40) = true := bne_iff_ne.mpr c16
              have H' := Aside0.mk H
              clear H
              go_wp2
              go_meet
              case rel => exact ⟨_, ((a0 == 18)), (by first | rfl | (simp; done) | (simp [*]; done)), H', ⟨by have := HJ1.out; have := HJ4.out; have := HJ7.out; first | omega | exact Nat.le_refl _⟩, by repeat (first | exact Drawn0.refl _ | apply Drawn0.step)⟩
          case rest =>
           clear HC13
           try clear c1
           try clear p2
           try clear c3
           try clear c3b0
           try clear c3b1
           try clear c4
           try clear c5
           try clear c6
           try clear c6b0
           try clear c6b1
           try clear c7
           try clear c9
           try clear c9b0
           try clear c9b1
           try clear c10
           try clear c10b0
           try clear c10b1
           try clear c11
           try clear c11b0
           try clear c11b1
           try clear c12
           try clear c14
           try clear c14b0
           try clear c14b1
           try clear c15
           try clear c15b0
           try clear c15b1
           try clear c16
           try clear c16b0
           try clear c16b1
           try clear p2
           obtain ⟨kq, x16_12, rfl, HA, HJ12, ⟨mc12, rfl⟩⟩ := hcut
           cases kq with
           | zero => exact absurd HA.out (by simp [rela_Field.j3])
           | succ kj12 =>
            have H := HA.out
            clear HA
            simp only [rela_Field.j3] at H
            by_cases c17 : x16_12 = true
            ·
             subst c17
             have H1 : (some (8, 0)) = some (r1, r2) := by rw [if_pos rfl] at H; exact H
             clear H
             have H := H1
             clear H1
             simp only [Option.some.injEq, Prod.mk.injEq] at H
             obtain ⟨rfl, rfl⟩ := H
             go_wp2
             go_ret2
             exact ⟨by first | rfl | (simp; done) | (simp [*]; done), by repeat (first | exact Drawn0.refl _ | apply Drawn0.step)⟩
            ·
             replace c17 := Bool.eq_false_iff.mpr c17
             subst c17
             have H1 : (if a0 = 1 then (some (4, 0)) else (if a0 = 16 then (some (4, 0)) else (if a0 = 17 then (some (4, 0)) else (if a0 = 23 then (some (4, 0)) else (if a0 = 24 then (some (4, 0)) else (if a0 = 25 then (some (4, 0)) else (if a0 = 26 then (some (4, 0)) else (if a0 = 27 then (some (4, 0)) else (if a0 = 28 then (some (4, 0)) else (if a0 = 35 then (some (4, 0)) else (if a0 = 39 then (some (4, 0)) else (some (0, 2))))))))))))) = some (r1, r2) := by rw [if_neg (show ¬ (false = true) by decide)] at H; exact H
             clear H
             have H := H1
             clear H1
             by_cases c18 : a0 = 1
             ·
              rw [if_pos c18] at H
              have c18b0 : (a0 == 1) = true := beq_iff_eq.mpr c18
              have c18b1 : (a0 != 1) = false := bne_eq_false_iff_eq.mpr c18
              clear c18
              simp only [Option.some.injEq, Prod.mk.injEq] at H
              obtain ⟨rfl, rfl⟩ := H
              go_wp2
              go_ret2
              exact ⟨by first | rfl | (simp; done) | (simp [*]; done), by repeat (first | exact Drawn0.refl _ | apply Drawn0.step)⟩
             ·
              rw [if_neg c18] at H
              have c18b0 : (a0 == 1) = false := beq_eq_false_iff_ne.mpr c18
              have c18b1 : (a0 != 1) = true := bne_iff_ne.mpr c18
              by_cases c19 : a0 = 16
              ·
               rw [if_pos c19] at H
               have c19b0 : (a0 == 16) = true := beq_iff_eq.mpr c19
               have c19b1 : (a0 != 16) = false := bne_eq_false_iff_eq.mpr c19
               clear c19
               simp only [Option.some.injEq, Prod.mk.injEq] at H
               obtain ⟨rfl, rfl⟩ := H
               go_wp2
               go_ret2
               exact ⟨by first | rfl | (simp; done) | (simp [*]; done), by repeat (first | exact Drawn0.refl _ | apply Drawn0.step)⟩
              ·
               rw [if_neg c19] at H
               have c19b0 : (a0 == 16) = false := beq_eq_false_iff_ne.mpr c19
               have c19b1 : (a0 != 16) = true := bne_iff_ne.mpr c19
               by_cases c20 : a0 = 17
               ·
                rw [if_pos c20] at H
                have c20b0 : (a0 == 17) = true := beq_iff_eq.mpr c20
                have c20b1 : (a0 != 17) = false := bne_eq_false_iff_eq.mpr c20
                clear c20
                simp only [Option.some.injEq, Prod.mk.injEq] at H
                obtain ⟨rfl, rfl⟩ := H
                go_wp2
                go_ret2
                exact ⟨by first | rfl | (simp; done) | (simp [*]; done), by repeat (first | exact Drawn0.refl _ | apply Drawn0.step)⟩
               ·
                rw [if_neg c20] at H
                have c20b0 : (a0 == 17) = false := beq_eq_false_iff_ne.mpr c20
                have c20b1 : (a0 != 17) = true := bne_iff_ne.mpr c20
                by_cases c21 : a0 = 23
                ·
                 rw [if_pos c21] at H
                 have c21b0 : (a0 == 23) = true := beq_iff_eq.mpr c21
                 have c21b1 : (a0 != 23) = false := bne_eq_false_iff_eq.mpr c21
                 clear c21
                 simp only [Option.some.injEq, Prod.mk.injEq] at H
                 obtain ⟨rfl, rfl⟩ := H
                 go_wp2
                 go_ret2
                 exact ⟨by first | rfl | (simp; done) | (simp [*]; done), by repeat (first | exact Drawn0.refl _ | apply Drawn0.step)⟩
                ·
                 rw [if_neg c21] at H
                 have c21b0 : (a0 == 23) = false := beq_eq_false_iff_ne.mpr c21
                 have c21b1 : (a0 != 23) = true := bne_iff_ne.mpr c21
                 by_cases c22 : a0 = 24
                 ·
                  rw [if_pos c22] at H
                  have c22b0 : (a0 == 24) = true := beq_iff_eq.mpr c22
                  have c22b1 : (a0 != 24) = false := bne_eq_false_iff_eq.mpr c22
                  clear c22
                  simp only [Option.some.injEq, Prod.mk.injEq] at H
                  obtain ⟨rfl, rfl⟩ := H
                  go_wp2
                  go_ret2
                  exact ⟨by first | rfl | (simp; done) | (simp [*]; done), by repeat (first | exact Drawn0.refl _ | apply Drawn0.step)⟩
                 ·
                  rw [if_neg c22] at H
                  have c22b0 : (a0 == 24) = false := beq_eq_false_iff_ne.mpr c22
                  have c22b1 : (a0 != 24) = true := bne_iff_ne.mpr c22
                  by_cases c23 : a0 = 25
                  ·
                   rw [if_pos c23] at H
                   have c23b0 : (a0 == 25) = true := beq_iff_eq.mpr c23
                   have c23b1 : (a0 != 25) = false := bne_eq_false_iff_eq.mpr c23
                   clear c23
                   simp only [Option.some.injEq, Prod.mk.injEq] at H
                   obtain ⟨rfl, rfl⟩ := H
                   go_wp2
                   go_ret2
                   exact ⟨by first | rfl | (simp; done) | (simp [*]; done), by repeat (first | exact Drawn0.refl _ | apply Drawn0.step)⟩
                  ·
                   rw [if_neg c23] at H
                   have c23b0 : (a0 == 25) = false := beq_eq_false_iff_ne.mpr c23
                   have c23b1 : (a0 != 25) = true := bne_iff_ne.mpr c23
                   by_cases c24 : a0 = 26
                   ·
                    rw [if_pos c24] at H
                    have c24b0 : (a0 == 26) = true := beq_iff_eq.mpr c24
                    have c24b1 : (a0 != 26) = false := bne_eq_false_iff_eq.mpr c24
                    clear c24
                    simp only [Option.some.injEq, Prod.mk.injEq] at H
                    obtain ⟨rfl, rfl⟩ := H
                    go_wp2
                    go_ret2
                    exact ⟨by first | rfl | (simp; done) | (simp [*]; done), by repeat (first | exact Drawn0.refl _ | apply Drawn0.step)⟩
                   ·
                    rw [if_neg c24] at H
                    have c24b0 : (a0 == 26) = false := beq_eq_false_iff_ne.mpr c24
                    have c24b1 : (a0 != 26) = true := bne_iff_ne.mpr c24
                    by_cases c25 : a0 = 27
                    ·
                     rw [if_pos c25] at H
                     have c25b0 : (a0 == 27) = true := beq_iff_eq.mpr c25
                     have c25b1 : (a0 != 27) = false := bne_eq_false_iff_eq.mpr c25
                     clear c25
                     simp only [Option.some.injEq, Prod.mk.injEq] at H
                     obtain ⟨rfl, rfl⟩ := H
                     go_wp2
                     go_ret2
                     exact ⟨by first | rfl | (simp; done) | (simp [*]; done), by repeat (first | exact Drawn0.refl _ | apply Drawn0.step)⟩
                    ·
                     rw [if_neg c25] at H
                     have c25b0 : (a0 == 27) = false := beq_eq_false_iff_ne.mpr c25
                     have c25b1 : (a0 != 27) = true := bne_iff_ne.mpr c25
                     by_cases c26 : a0 = 28
                     ·
                      rw [if_pos c26] at H
                      have c26b0 : (a0 == 28) = true := beq_iff_eq.mpr c26
                      have c26b1 : (a0 != 28) = false := bne_eq_false_iff_eq.mpr c26
                      clear c26
                      simp only [Option.some.injEq, Prod.mk.injEq] at H
                      obtain ⟨rfl, rfl⟩ := H
                      go_wp2
                      go_ret2
                      exact ⟨by first | rfl | (simp; done) | (simp [*]; done), by repeat (first | exact Drawn0.refl _ | apply Drawn0.step)⟩
                     ·
                      rw [if_neg c26] at H
                      have c26b0 : (a0 == 28) = false := beq_eq_false_iff_ne.mpr c26
                      have c26b1 : (a0 != 28) = true := bne_iff_ne.mpr c26
                      by_cases c27 : a0 = 35
                      ·
                       rw [if_pos c27] at H
                       have c27b0 : (a0 == 35) = true := beq_iff_eq.mpr c27
                       have c27b1 : (a0 != 35) = false := bne_eq_false_iff_eq.mpr c27
                       clear c27
                       simp only [Option.some.injEq, Prod.mk.injEq] at H
                       obtain ⟨rfl, rfl⟩ := H
                       go_wp2
                       go_ret2
                       exact ⟨by first | rfl | (simp; done) | (simp [*]; done), by repeat (first | exact Drawn0.refl _ | apply Drawn0.step)⟩
                      ·
                       rw [if_neg c27] at H
                       have c27b0 : (a0 == 35) = false := beq_eq_false_iff_ne.mpr c27
                       have c27b1 : (a0 != 35) = true := bne_iff_ne.mpr c27
                       by_cases c28 : a0 = 39
                       ·
                        rw [if_pos c28] at H
                        have c28b0 : (a0 == 39) = true := beq_iff_eq.mpr c28
                        have c28b1 : (a0 != 39) = false := bne_eq_false_iff_eq.mpr c28
                        clear c28
                        simp only [Option.some.injEq, Prod.mk.injEq] at H
                        obtain ⟨rfl, rfl⟩ := H
                        go_wp2
                        go_ret2
                        exact ⟨by first | rfl | (simp; done) | (simp [*]; done), by repeat (first | exact Drawn0.refl _ | apply Drawn0.step)⟩
                       ·
                        rw [if_neg c28] at H
                        have c28b0 : (a0 == 39) = false := beq_eq_false_iff_ne.mpr c28
                        have c28b1 : (a0 != 39) = true := bne_iff_ne.mpr c28
                        simp only [Option.some.injEq, Prod.mk.injEq] at H
                        obtain ⟨rfl, rfl⟩ := H
                        go_wp2
                        go_ret2
                        exact ⟨by first | rfl | (simp; done) | (simp [*]; done), by repeat (first | exact Drawn0.refl _ | apply Drawn0.step)⟩

/-! ### quoinref11_About: function 13 -/
mutual
def quoinref11_About.j0 : Nat → Int → Bool → Option (Int)
 | 0, _, _ => none
 | k + 1, x3, x4 => if x4 = true then (some 1) else (if x3 = 34 then (quoinref11_About.j1 k x3 (x3 == 34)) else (if x3 = 38 then (quoinref11_About.j1 k x3 (x3 == 38)) else (if x3 = 44 then (quoinref11_About.j1 k x3 (x3 == 44)) else (quoinref11_About.j1 k x3 (x3 == 45)))))
def quoinref11_About.j1 : Nat → Int → Bool → Option (Int)
 | 0, _, _ => none
 | k + 1, x3, x7 => if x7 = true then (some 2) else (if x3 = 1 then (quoinref11_About.j2 k x3 (x3 == 1)) else (if x3 = 16 then (quoinref11_About.j2 k x3 (x3 == 16)) else (if x3 = 17 then (quoinref11_About.j2 k x3 (x3 == 17)) else (if x3 = 23 then (quoinref11_About.j2 k x3 (x3 == 23)) else (if x3 = 24 then (quoinref11_About.j2 k x3 (x3 == 24)) else (if x3 = 25 then (quoinref11_About.j2 k x3 (x3 == 25)) else (if x3 = 26 then (quoinref11_About.j2 k x3 (x3 == 26)) else (if x3 = 27 then (quoinref11_About.j2 k x3 (x3 == 27)) else (if x3 = 28 then (quoinref11_About.j2 k x3 (x3 == 28)) else (if x3 = 35 then (quoinref11_About.j2 k x3 (x3 == 35)) else (quoinref11_About.j2 k x3 (x3 == 39))))))))))))
def quoinref11_About.j2 : Nat → Int → Bool → Option (Int)
 | 0, _, _ => none
 | k + 1, x3, x12 => if x12 = true then (some 4) else (if x3 = 2 then (quoinref11_About.j3 k x3 (x3 == 2)) else (if x3 = 36 then (quoinref11_About.j3 k x3 (x3 == 36)) else (if x3 = 40 then (quoinref11_About.j3 k x3 (x3 == 40)) else (quoinref11_About.j3 k x3 (x3 == 18)))))
def quoinref11_About.j3 : Nat → Int → Bool → Option (Int)
 | 0, _, _ => none
 | k + 1, x3, x24 => if x24 = true then (some 8) else (if x3 = 43 then (some 0) else (if x3 = 51 then (some 0) else (some (-1))))
end
def quoinref11_About.f (k : Nat) (a0 : Int) : Option (Int) := if a0 = 33 then (quoinref11_About.j0 k a0 (a0 == 33)) else (quoinref11_About.j0 k a0 (a0 == 37))
theorem quoinref11_About.mono_l : ∀ k, (∀ y0 y1, LeO (quoinref11_About.j0 k y0 y1) (quoinref11_About.j0 (k + 1) y0 y1)) ∧ (∀ y0 y1, LeO (quoinref11_About.j1 k y0 y1) (quoinref11_About.j1 (k + 1) y0 y1)) ∧ (∀ y0 y1, LeO (quoinref11_About.j2 k y0 y1) (quoinref11_About.j2 (k + 1) y0 y1)) ∧ (∀ y0 y1, LeO (quoinref11_About.j3 k y0 y1) (quoinref11_About.j3 (k + 1) y0 y1))
 | 0 => ⟨fun _ _ r h => by simp [quoinref11_About.j0] at h, fun _ _ r h => by simp [quoinref11_About.j1] at h, fun _ _ r h => by simp [quoinref11_About.j2] at h, fun _ _ r h => by simp [quoinref11_About.j3] at h⟩
 | k + 1 => by
  obtain ⟨ih0, ih1, ih2, ih3⟩ := quoinref11_About.mono_l k
  refine ⟨?_, ?_, ?_, ?_⟩
  ·
   intro y0 y1
   unfold quoinref11_About.j0
   repeat' first
   | (with_reducible exact ih0 _ _)
   | (with_reducible exact ih1 _ _)
   | (with_reducible exact ih2 _ _)
   | (with_reducible exact ih3 _ _)
   | (with_reducible exact LeO.refl _)
   | (with_reducible exact LeO.none _)
   | (with_reducible refine LeO.ite ?_ ?_)
   | (with_reducible refine LeO.bind ?_ (fun _ => ?_))
   | exact ih0 _ _
   | exact ih1 _ _
   | exact ih2 _ _
   | exact ih3 _ _
   | exact LeO.none _
   | refine LeO.ite ?_ ?_
   | refine LeO.bind ?_ (fun _ => ?_)
  ·
   intro y0 y1
   unfold quoinref11_About.j1
   repeat' first
   | (with_reducible exact ih0 _ _)
   | (with_reducible exact ih1 _ _)
   | (with_reducible exact ih2 _ _)
   | (with_reducible exact ih3 _ _)
   | (with_reducible exact LeO.refl _)
   | (with_reducible exact LeO.none _)
   | (with_reducible refine LeO.ite ?_ ?_)
   | (with_reducible refine LeO.bind ?_ (fun _ => ?_))
   | exact ih0 _ _
   | exact ih1 _ _
   | exact ih2 _ _
   | exact ih3 _ _
   | exact LeO.none _
   | refine LeO.ite ?_ ?_
   | refine LeO.bind ?_ (fun _ => ?_)
  ·
   intro y0 y1
   unfold quoinref11_About.j2
   repeat' first
   | (with_reducible exact ih0 _ _)
   | (with_reducible exact ih1 _ _)
   | (with_reducible exact ih2 _ _)
   | (with_reducible exact ih3 _ _)
   | (with_reducible exact LeO.refl _)
   | (with_reducible exact LeO.none _)
   | (with_reducible refine LeO.ite ?_ ?_)
   | (with_reducible refine LeO.bind ?_ (fun _ => ?_))
   | exact ih0 _ _
   | exact ih1 _ _
   | exact ih2 _ _
   | exact ih3 _ _
   | exact LeO.none _
   | refine LeO.ite ?_ ?_
   | refine LeO.bind ?_ (fun _ => ?_)
  ·
   intro y0 y1
   unfold quoinref11_About.j3
   repeat' first
   | (with_reducible exact ih0 _ _)
   | (with_reducible exact ih1 _ _)
   | (with_reducible exact ih2 _ _)
   | (with_reducible exact ih3 _ _)
   | (with_reducible exact LeO.refl _)
   | (with_reducible exact LeO.none _)
   | (with_reducible refine LeO.ite ?_ ?_)
   | (with_reducible refine LeO.bind ?_ (fun _ => ?_))
   | exact ih0 _ _
   | exact ih1 _ _
   | exact ih2 _ _
   | exact ih3 _ _
   | exact LeO.none _
   | refine LeO.ite ?_ ?_
   | refine LeO.bind ?_ (fun _ => ?_)
theorem quoinref11_About.mono : ∀ a0 k, LeO (quoinref11_About.f k a0) (quoinref11_About.f (k + 1) a0) := by
 intro a0 k
 obtain ⟨ih0, ih1, ih2, ih3⟩ := quoinref11_About.mono_l k
 unfold quoinref11_About.f
 repeat' first
   | (with_reducible exact ih0 _ _)
   | (with_reducible exact ih1 _ _)
   | (with_reducible exact ih2 _ _)
   | (with_reducible exact ih3 _ _)
   | (with_reducible exact LeO.refl _)
   | (with_reducible exact LeO.none _)
   | (with_reducible refine LeO.ite ?_ ?_)
   | (with_reducible refine LeO.bind ?_ (fun _ => ?_))
   | exact ih0 _ _
   | exact ih1 _ _
   | exact ih2 _ _
   | exact ih3 _ _
   | exact LeO.none _
   | refine LeO.ite ?_ ?_
   | refine LeO.bind ?_ (fun _ => ?_)
set_option maxHeartbeats 8000000 in
set_option maxRecDepth 100000 in
theorem quoinref11_About.calls (k : Nat) (a0 : Int) (r : Int) (w : World) (h : quoinref11_About.f k a0 = some r) :
  Calls Try.prog 13 #[.int .u8 a0] w fun e w' => e = .returned (.int .i64 r) ∧ Drawn0 w w' := by
 have H : (if a0 = 33 then (quoinref11_About.j0 k a0 (a0 == 33)) else (quoinref11_About.j0 k a0 (a0 == 37))) = some r := h
 clear h
 have HC2 := Aside0.mk H
 clear H
 go_enter Try.func13, Try.ntmps13
 go_upto_if 4 with (fail)
 go_cut [4] (fun v4 wc => ∃ (kq : Nat) (x4_1 : Bool), v4 = .bool x4_1 ∧ Aside0 (quoinref11_About.j0 kq a0 x4_1 = some r) ∧ Aside0 (kq ≤ k) ∧ Drawn0 w wc)
 case first =>
  have H := HC2.out
  clear HC2
  by_cases c3 : a0 = 33
  ·
   rw [if_pos c3] at H
   have c3b0 : (a0 == 33) = true := beq_iff_eq.mpr c3
   have c3b1 : (a0 != 33) = false := bne_eq_false_iff_eq.mpr c3
   clear c3
   (first | rw [c3b0] | (simp only [i64_w, i32_w]; rw [c3b0]) | skip)
   have H' := Aside0.mk H
   clear H
   go_wp2
   go_meet
   case rel => exact ⟨_, ((a0 == 33)), (by first | rfl | (simp; done) | (simp [*]; done)), H', ⟨by first | omega | exact Nat.le_refl _⟩, by repeat (first | exact Drawn0.refl _ | apply Drawn0.step)⟩
  ·
   rw [if_neg c3] at H
   have c3b0 : (a0 == 33) = false := beq_eq_false_iff_ne.mpr c3
   have c3b1 : (a0 != 33) = true := bne_iff_ne.mpr c3
   (first | rw [c3b0] | (simp only [i64_w, i32_w]; rw [c3b0]) | skip)
   have H' := Aside0.mk H
   clear H
   go_wp2
   go_meet
   case rel => exact ⟨_, ((a0 == 37)), (by first | rfl | (simp; done) | (simp [*]; done)), H', ⟨by first | omega | exact Nat.le_refl _⟩, by repeat (first | exact Drawn0.refl _ | apply Drawn0.step)⟩
 case rest =>
  clear HC2
  try clear c1
  try clear p2
  try clear c3
  try clear c3b0
  try clear c3b1
  obtain ⟨kq, x4_1, rfl, HA, HJ1, ⟨mc1, rfl⟩⟩ := hcut
  cases kq with
  | zero => exact absurd HA.out (by simp [quoinref11_About.j0])
  | succ kj1 =>
   have H := HA.out
   clear HA
   simp only [quoinref11_About.j0] at H
   by_cases c4 : x4_1 = true
   ·
    subst c4
    have H1 : (some 1) = some r := by rw [if_pos rfl] at H; exact H
    clear H
    have H := H1
    clear H1
    obtain rfl := Option.some.inj H
    go_wp2
    go_ret
    exact ⟨by first | rfl | (simp; done) | (simp [*]; done), by repeat (first | exact Drawn0.refl _ | apply Drawn0.step)⟩
   ·
    replace c4 := Bool.eq_false_iff.mpr c4
    subst c4
    have H1 : (if a0 = 34 then (quoinref11_About.j1 kj1 a0 (a0 == 34)) else (if a0 = 38 then (quoinref11_About.j1 kj1 a0 (a0 == 38)) else (if a0 = 44 then (quoinref11_About.j1 kj1 a0 (a0 == 44)) else (quoinref11_About.j1 kj1 a0 (a0 == 45))))) = some r := by rw [if_neg (show ¬ (false = true) by decide)] at H; exact H
    clear H
    have H := H1
    clear H1
    have HC5 := Aside0.mk H
    clear H
    go_upto_if 7 with (fail)
    go_cut [7] (fun v7 wc => ∃ (kq : Nat) (x7_4 : Bool), v7 = .bool x7_4 ∧ Aside0 (quoinref11_About.j1 kq a0 x7_4 = some r) ∧ Aside0 (kq ≤ kj1) ∧ Drawn0 w wc)
    case first =>
     have H := HC5.out
     clear HC5
     by_cases c6 : a0 = 34
     ·
      rw [if_pos c6] at H
      have c6b0 : (a0 == 34) = true := beq_iff_eq.mpr c6
      have c6b1 : (a0 != 34) = false := bne_eq_false_iff_eq.mpr c6
      clear c6
      (first | rw [c6b0] | (simp only [i64_w, i32_w]; rw [c6b0]) | skip)
      have H' := Aside0.mk H
      clear H
      go_wp2
      go_meet
      case rel => exact ⟨_, ((a0 == 34)), (by first | rfl | (simp; done) | (simp [*]; done)), H', ⟨by have := HJ1.out; first | omega | exact Nat.le_refl _⟩, by repeat (first | exact Drawn0.refl _ | apply Drawn0.step)⟩
     ·
      rw [if_neg c6] at H
      have c6b0 : (a0 == 34) = false := beq_eq_false_iff_ne.mpr c6
      have c6b1 : (a0 != 34) = true := bne_iff_ne.mpr c6
      (first | rw [c6b0] | (simp only [i64_w, i32_w]; rw [c6b0]) | skip)
      by_cases c7 : a0 = 38
      ·
       rw [if_pos c7] at H
       have c7b0 : (a0 == 38) = true := beq_iff_eq.mpr c7
       have c7b1 : (a0 != 38) = false := bne_eq_false_iff_eq.mpr c7
       clear c7
       have H' := Aside0.mk H
       clear H
       go_wp2
       go_meet
       case rel => exact ⟨_, ((a0 == 38)), (by first | rfl | (simp; done) | (simp [*]; done)), H', ⟨by have := HJ1.out; first | omega | exact Nat.le_refl _⟩, by repeat (first | exact Drawn0.refl _ | apply Drawn0.step)⟩
      ·
       rw [if_neg c7] at H
       have c7b0 : (a0 == 38) = false := beq_eq_false_iff_ne.mpr c7
       have c7b1 : (a0 != 38) = true := bne_iff_ne.mpr c7
       by_cases c8 : a0 = 44
       ·
        rw [if_pos c8] at H
        have c8b0 : (a0 == 44) = true := beq_iff_eq.mpr c8
        have c8b1 : (a0 != 44) = false := bne_eq_false_iff_eq.mpr c8
        clear c8
        have H' := Aside0.mk H
        clear H
        go_wp2
        go_meet
        case rel => exact ⟨_, ((a0 == 44)), (by first | rfl | (simp; done) | (simp [*]; done)), H', ⟨by have := HJ1.out; first | omega | exact Nat.le_refl _⟩, by repeat (first | exact Drawn0.refl _ | apply Drawn0.step)⟩
       ·
        rw [if_neg c8] at H
        have c8b0 : (a0 == 44) = false := beq_eq_false_iff_ne.mpr c8
        have c8b1 : (a0 != 44) = true := bne_iff_ne.mpr c8
        have H' := Aside0.mk H
        clear H
        go_wp2
        go_meet
        case rel => exact ⟨_, ((a0 == 45)), (by first | rfl | (simp; done) | (simp [*]; done)), H', ⟨by have := HJ1.out; first | omega | exact Nat.le_refl _⟩, by repeat (first | exact Drawn0.refl _ | apply Drawn0.step)⟩
    case rest =>
     clear HC5
     try clear c1
     try clear p2
     try clear c3
     try clear c3b0
     try clear c3b1
     try clear c4
     try clear c6
     try clear c6b0
     try clear c6b1
     try clear c7
     try clear c7b0
     try clear c7b1
     try clear c8
     try clear c8b0
     try clear c8b1
     try clear p2
     obtain ⟨kq, x7_4, rfl, HA, HJ4, ⟨mc4, rfl⟩⟩ := hcut
     cases kq with
     | zero => exact absurd HA.out (by simp [quoinref11_About.j1])
     | succ kj4 =>
      have H := HA.out
      clear HA
      simp only [quoinref11_About.j1] at H
      by_cases c9 : x7_4 = true
      ·
       subst c9
       have H1 : (some 2) = some r := by rw [if_pos rfl] at H; exact H
       clear H
       have H := H1
       clear H1
       obtain rfl := Option.some.inj H
       go_wp2
       go_ret
       exact ⟨by first | rfl | (simp; done) | (simp [*]; done), by repeat (first | exact Drawn0.refl _ | apply Drawn0.step)⟩
      ·
       replace c9 := Bool.eq_false_iff.mpr c9
       subst c9
       have H1 : (if a0 = 1 then (quoinref11_About.j2 kj4 a0 (a0 == 1)) else (if a0 = 16 then (quoinref11_About.j2 kj4 a0 (a0 == 16)) else (if a0 = 17 then (quoinref11_About.j2 kj4 a0 (a0 == 17)) else (if a0 = 23 then (quoinref11_About.j2 kj4 a0 (a0 == 23)) else (if a0 = 24 then (quoinref11_About.j2 kj4 a0 (a0 == 24)) else (if a0 = 25 then (quoinref11_About.j2 kj4 a0 (a0 == 25)) else (if a0 = 26 then (quoinref11_About.j2 kj4 a0 (a0 == 26)) else (if a0 = 27 then (quoinref11_About.j2 kj4 a0 (a0 == 27)) else (if a0 = 28 then (quoinref11_About.j2 kj4 a0 (a0 == 28)) else (if a0 = 35 then (quoinref11_About.j2 kj4 a0 (a0 == 35)) else (quoinref11_About.j2 kj4 a0 (a0 == 39)))))))))))) = some r := by rw [if_neg (show ¬ (false = true) by decide)] at H; exact H
       clear H
       have H := H1
       clear H1
       have HC10 := Aside0.mk H
       clear H
       go_upto_if 12 with (fail)
       go_cut [12] (fun v12 wc => ∃ (kq : Nat) (x12_9 : Bool), v12 = .bool x12_9 ∧ Aside0 (quoinref11_About.j2 kq a0 x12_9 = some r) ∧ Aside0 (kq ≤ kj4) ∧ Drawn0 w wc)
       case first =>
        have H := HC10.out
        clear HC10
        by_cases c11 : a0 = 1
        ·
         rw [if_pos c11] at H
         have c11b0 : (a0 == 1) = true := beq_iff_eq.mpr c11
         have c11b1 : (a0 != 1) = false := bne_eq_false_iff_eq.mpr c11
         clear c11
         (first | rw [c11b0] | (simp only [i64_w, i32_w]; rw [c11b0]) | skip)
         have H' := Aside0.mk H
         clear H
         go_wp2
         go_meet
         case rel => exact ⟨_, ((a0 == 1)), (by first | rfl | (simp; done) | (simp [*]; done)), H', ⟨by have := HJ1.out; have := HJ4.out; first | omega | exact Nat.le_refl _⟩, by repeat (first | exact Drawn0.refl _ | apply Drawn0.step)⟩
        ·
         rw [if_neg c11] at H
         have c11b0 : (a0 == 1) = false := beq_eq_false_iff_ne.mpr c11
         have c11b1 : (a0 != 1) = true := bne_iff_ne.mpr c11
         (first | rw [c11b0] | (simp only [i64_w, i32_w]; rw [c11b0]) | skip)
         by_cases c12 : a0 = 16
         ·
          rw [if_pos c12] at H
          have c12b0 : (a0 == 16) = true := beq_iff_eq.mpr c12
          have c12b1 : (a0 != 16) = false := bne_eq_false_iff_eq.mpr c12
          clear c12
          have H' := Aside0.mk H
          clear H
          go_wp2
          go_meet
          case rel => exact ⟨_, ((a0 == 16)), (by first | rfl | (simp; done) | (simp [*]; done)), H', ⟨by have := HJ1.out; have := HJ4.out; first | omega | exact Nat.le_refl _⟩, by repeat (first | exact Drawn0.refl _ | apply Drawn0.step)⟩
         ·
          rw [if_neg c12] at H
          have c12b0 : (a0 == 16) = false := beq_eq_false_iff_ne.mpr c12
          have c12b1 : (a0 != 16) = true := bne_iff_ne.mpr c12
          by_cases c13 : a0 = 17
          ·
           rw [if_pos c13] at H
           have c13b0 : (a0 == 17) = true := beq_iff_eq.mpr c13
           have c13b1 : (a0 != 17) = false := bne_eq_false_iff_eq.mpr c13
           clear c13
           have H' := Aside0.mk H
           clear H
           go_wp2
           go_meet
           case rel => exact ⟨_, ((a0 == 17)), (by first | rfl | (simp; done) | (simp [*]; done)), H', ⟨by have := HJ1.out; have := HJ4.out; first | omega | exact Nat.le_refl _⟩, by repeat (first | exact Drawn0.refl _ | apply Drawn0.step)⟩
          ·
           rw [if_neg c13] at H
           have c13b0 : (a0 == 17) = false := beq_eq_false_iff_ne.mpr c13
           have c13b1 : (a0 != 17) = true := bne_iff_ne.mpr c13
           by_cases c14 : a0 = 23
           ·
            rw [if_pos c14] at H
            have c14b0 : (a0 == 23) = true := beq_iff_eq.mpr c14
            have c14b1 : (a0 != 23) = false := bne_eq_false_iff_eq.mpr c14
            clear c14
            have H' := Aside0.mk H
            clear H
            go_wp2
            go_meet
            case rel => exact ⟨_, ((a0 == 23)), (by first | rfl | (simp; done) | (simp [*]; done)), H', ⟨by have := HJ1.out; have := HJ4.out; first | omega | exact Nat.le_refl _⟩, by repeat (first | exact Drawn0.refl _ | apply Drawn0.step)⟩
           ·
            rw [if_neg c14] at H
            have c14b0 : (a0 == 23) = false := beq_eq_false_iff_ne.mpr c14
            have c14b1 : (a0 != 23) = true := bne_iff_ne.mpr c14
            by_cases c15 : a0 = 24
            ·
             rw [if_pos c15] at H
             have c15b0 : (a0 == 24) = true := beq_iff_eq.mpr c15
             have c15b1 : (a0 != 24) = false := bne_eq_false_iff_eq.mpr c15
             clear c15
             have H' := Aside0.mk H
             clear H
             go_wp2
             go_meet
             case rel => exact ⟨_, ((a0 == 24)), (by first | rfl | (simp; done) | (simp [*]; done)), H', ⟨by have := HJ1.out; have := HJ4.out; first | omega | exact Nat.le_refl _⟩, by repeat (first | exact Drawn0.refl _ | apply Drawn0.step)⟩
            ·
             rw [if_neg c15] at H
             have c15b0 : (a0 == 24) = false := beq_eq_false_iff_ne.mpr c15
             have c15b1 : (a0 != 24) = true := bne_iff_ne.mpr c15
             by_cases c16 : a0 = 25
             ·
              rw [if_pos c16] at H
              have c16b0 : (a0 == 25) = true := beq_iff_eq.mpr c16
              have c16b1 : (a0 != 25) = false := bne_eq_false_iff_eq.mpr c16
              clear c16
              have H' := Aside0.mk H
              clear H
              go_wp2
              go_meet
              case rel => exact ⟨_, ((a0 == 25)), (by first | rfl | (simp; done) | (simp [*]; done)), H', ⟨by have := HJ1.out; have := HJ4.out; first | omega | exact Nat.le_refl _⟩, by repeat (first | exact Drawn0.refl _ | apply Drawn0.step)⟩
             ·
              rw [if_neg c16] at H
              have c16b0 : (a0 == 25) = false := beq_eq_false_iff_ne.mpr c16
              have c16b1 : (a0 != 25) = true := bne_iff_ne.mpr c16
              by_cases c17 : a0 = 26
              ·
               rw [if_pos c17] at H
               have c17b0 : (a0 == 26) = true := beq_iff_eq.mpr c17
               have c17b1 : (a0 != 26) = false := bne_eq_false_iff_eq.mpr c17
               clear c17
               have H' := Aside0.mk H
               clear H
               go_wp2
               go_meet
               case rel => exact ⟨_, ((a0 == 26)), (by first | rfl | (simp; done) | (simp [*]; done)), H', ⟨by have := HJ1.out; have := HJ4.out; first | omega | exact Nat.le_refl _⟩, by repeat (first | exact Drawn0.refl _ | apply Drawn0.step)⟩
              ·
               rw [if_neg c17] at H
               have c17b0 : (a0 == 26) = false := beq_eq_false_iff_ne.mpr c17
               have c17b1 : (a0 != 26) = true := bne_iff_ne.mpr c17
               by_cases c18 : a0 = 27
               ·
                rw [if_pos c18] at H
                have c18b0 : (a0 == 27) = true := beq_iff_eq.mpr c18
                have c18b1 : (a0 != 27) = false := bne_eq_false_iff_eq.mpr c18
                clear c18
                have H' := Aside0.mk H
                clear H
                go_wp2
                go_meet
                case rel => exact ⟨_, ((a0 == 27)), (by first | rfl | (simp; done) | (simp [*]; done)), H', ⟨by have := HJ1.out; have := HJ4.out; first | omega | exact Nat.le_refl _⟩, by repeat (first | exact Drawn0.refl _ | apply Drawn0.step)⟩
               ·
                rw [if_neg c18] at H
                have c18b0 : (a0 == 27) = false := beq_eq_false_iff_ne.mpr c18
                have c18b1 : (a0 != 27) = true := bne_iff_ne.mpr c18
                by_cases c19 : a0 = 28
                ·
                 rw [if_pos c19] at H
                 have c19b0 : (a0 == 28) = true := beq_iff_eq.mpr c19
                 have c19b1 : (a0 != 28) = false := bne_eq_false_iff_eq.mpr c19
                 clear c19
                 have H' := Aside0.mk H
                 clear H
                 go_wp2
                 go_meet
                 case rel => exact ⟨_, ((a0 == 28)), (by first | rfl | (simp; done) | (simp [*]; done)), H', ⟨by have := HJ1.out; have := HJ4.out; first | omega | exact Nat.le_refl _⟩, by repeat (first | exact Drawn0.refl _ | apply Drawn0.step)⟩
                ·
                 rw [if_neg c19] at H
                 have c19b0 : (a0 == 28) = false := beq_eq_false_iff_ne.mpr c19
                 have c19b1 : (a0 != 28) = true := bne_iff_ne.mpr c19
                 by_cases c20 : a0 = 35
                 ·
                  rw [if_pos c20] at H
                  have c20b0 : (a0 == 35) = true := beq_iff_eq.mpr c20
                  have c20b1 : (a0 != 35) = false := bne_eq_false_iff_eq.mpr c20
                  clear c20
                  have H' := Aside0.mk H
                  clear H
                  go_wp2
                  go_meet
                  case rel => exact ⟨_, ((a0 == 35)), (by first | rfl | (simp; done) | (simp [*]; done)), H', ⟨by have := HJ1.out; have := HJ4.out; first | omega | exact Nat.le_refl _⟩, by repeat (first | exact Drawn0.refl _ | apply Drawn0.step)⟩
                 ·
                  rw [if_neg c20] at H
                  have c20b0 : (a0 == 35) = false := beq_eq_false_iff_ne.mpr c20
                  have c20b1 : (a0 != 35) = true := bne_iff_ne.mpr c20
                  have H' := Aside0.mk H
                  clear H
                  go_wp2
                  go_meet
                  case rel => exact ⟨_, ((a0 == 39)), (by first | rfl | (simp; done) | (simp [*]; done)), H', ⟨by have := HJ1.out; have := HJ4.out; first | omega | exact Nat.le_refl _⟩, by repeat (first | exact Drawn0.refl _ | apply Drawn0.step)⟩
       case rest =>
        clear HC10
        try clear c1
        try clear c2
        try clear p2
        try clear c3
        try clear c3b0
        try clear c3b1
        try clear c4
        try clear c6
        try clear c6b0
        try clear c6b1
        try clear c7
        try clear c7b0
        try clear c7b1
        try clear c8
        try clear c8b0
        try clear c8b1
        try clear c9
        try clear c11
        try clear c11b0
        try clear c11b1
        try clear c12
        try clear c12b0
        try clear c12b1
        try clear c13
        try clear c13b0
        try clear c13b1
        try clear c14
        try clear c14b0
        try clear c14b1
        try clear c15
        try clear c15b0
        try clear c15b1
        try clear c16
        try clear c16b0
        try clear c16b1
        try clear c17
        try clear c17b0
        try clear c17b1
        try clear c18
        try clear c18b0
        try clear c18b1
        try clear c19
        try clear c19b0
        try clear c19b1
        try clear c20
        try clear c20b0
        try clear c20b1
        try clear p2
        obtain ⟨kq, x12_9, rfl, HA, HJ9, ⟨mc9, rfl⟩⟩ := hcut
        cases kq with
        | zero => exact absurd HA.out (by simp [quoinref11_About.j2])
        | succ kj9 =>
         have H := HA.out
         clear HA
         simp only [quoinref11_About.j2] at H
         by_cases c21 : x12_9 = true
         ·
          subst c21
          have H1 : (some 4) = some r := by rw [if_pos rfl] at H; exact H
          clear H
          have H := H1
          clear H1
          obtain rfl := Option.some.inj H
          go_wp2
          go_ret
          exact ⟨by first | rfl | (simp; done) | (simp [*]; done), by repeat (first | exact Drawn0.refl _ | apply Drawn0.step)⟩
         ·
          replace c21 := Bool.eq_false_iff.mpr c21
          subst c21
          have H1 : (if a0 = 2 then (quoinref11_About.j3 kj9 a0 (a0 == 2)) else (if a0 = 36 then (quoinref11_About.j3 kj9 a0 (a0 == 36)) else (if a0 = 40 then (quoinref11_About.j3 kj9 a0 (a0 == 40)) else (quoinref11_About.j3 kj9 a0 (a0 == 18))))) = some r := by rw [if_neg (show ¬ (false = true) by decide)] at H; exact H
          clear H
          have H := H1
          clear H1
          have HC22 := Aside0.mk H
          clear H
          go_upto_if 24 with (fail)
          go_cut [24] (fun v24 wc => ∃ (kq : Nat) (x24_21 : Bool), v24 = .bool x24_21 ∧ Aside0 (quoinref11_About.j3 kq a0 x24_21 = some r) ∧ Aside0 (kq ≤ kj9) ∧ Drawn0 w wc)
          case first =>
           have H := HC22.out
           clear HC22
           by_cases c23 : a0 = 2
           ·
            rw [if_pos c23] at H
            have c23b0 : (a0 == 2) = true := beq_iff_eq.mpr c23
            have c23b1 : (a0 != 2) = false := bne_eq_false_iff_eq.mpr c23
            clear c23
            (first | rw [c23b0] | (simp only [i64_w, i32_w]; rw [c23b0]) | skip)
            have H' := Aside0.mk H
            clear H
            go_wp2
            go_meet
            case rel => exact ⟨_, ((a0 == 2)), (by first | rfl | (simp; done) | (simp [*]; done)), H', ⟨by have := HJ1.out; have := HJ4.out; have := HJ9.out; first | omega | exact Nat.le_refl _⟩, by repeat (first | exact Drawn0.refl _ | apply Drawn0.step)⟩
           ·
            rw [if_neg c23] at H
            have c23b0 : (a0 == 2) = false := beq_eq_false_iff_ne.mpr c23
            have c23b1 : (a0 != 2) = true := bne_iff_ne.mpr c23
            (first | rw [c23b0] | (simp only [i64_w, i32_w]; rw [c23b0]) | skip)
            by_cases c24 : a0 = 36
            ·
             rw [if_pos c24] at H
             have c24b0 : (a0 == 36) = true := beq_iff_eq.mpr c24
             have c24b1 : (a0 != 36) = false := bne_eq_false_iff_eq.mpr c24
             clear c24
             have H' := Aside0.mk H
             clear H
             go_wp2
             go_meet
             case rel => exact ⟨_, ((a0 == 36)), (by first | rfl | (simp; done) | (simp [*]; done)), H', ⟨by have := HJ1.out; have := HJ4.out; have := HJ9.out; first | omega | exact Nat.le_refl _⟩, by repeat (first | exact Drawn0.refl _ | apply Drawn0.step)⟩
            ·
             rw [if_neg c24] at H
             have c24b0 : (a0 == 36) = false := beq_eq_false_iff_ne.mpr c24
             have c24b1 : (a0 != 36) = true := bne_iff_ne.mpr c24
             by_cases c25 : a0 = 40
             ·
              rw [if_pos c25] at H
              have c25b0 : (a0 == 40) = true := beq_iff_eq.mpr c25
              have c25b1 : (a0 != 40) = false := bne_eq_false_iff_eq.mpr c25
              clear c25
              have H' := Aside0.mk H
              clear H
              go_wp2
              go_meet
              case rel => exact ⟨_, ((a0 == 40)), (by first | rfl | (simp; done) | (simp [*]; done)), H', ⟨by have := HJ1.out; have := HJ4.out; have := HJ9.out; first | omega | exact Nat.le_refl _⟩, by repeat (first | exact Drawn0.refl _ | apply Drawn0.step)⟩
             ·
              rw [if_neg c25] at H
              have c25b0 : (a0 == 40) = false := beq_eq_false_iff_ne.mpr c25
              have c25b1 : (a0 != 40) = true := bne_iff_ne.mpr c25
              have H' := Aside0.mk H
              clear H
              go_wp2
              go_meet
              case rel => exact ⟨_, ((a0 == 18)), (by first | rfl | (simp; done) | (simp [*]; done)), H', ⟨by have := HJ1.out; have := HJ4.out; have := HJ9.out; first | omega | exact Nat.le_refl _⟩, by repeat (first | exact Drawn0.refl _ | apply Drawn0.step)⟩
          case rest =>
           clear HC22
           try clear c1
           try clear c2
           try clear p2
           try clear c3
           try clear c3b0
           try clear c3b1
           try clear c4
           try clear c6
           try clear c6b0
           try clear c6b1
           try clear c7
           try clear c7b0
           try clear c7b1
           try clear c8
           try clear c8b0
           try clear c8b1
           try clear c9
           try clear c11
           try clear c11b0
           try clear c11b1
           try clear c12
           try clear c12b0
           try clear c12b1
           try clear c13
           try clear c13b0
           try clear c13b1
           try clear c14
           try clear c14b0
           try clear c14b1
           try clear c15
           try clear c15b0
           try clear c15b1
           try clear c16
           try clear c16b0
           try clear c16b1
           try clear c17
           try clear c17b0
           try clear c17b1
           try clear c18
           try clear c18b0
           try clear c18b1
           try clear c19
           try clear c19b0
           try clear c19b1
           try clear c20
           try clear c20b0
           try clear c20b1
           try clear c21
           try clear c23
           try clear c23b0
           try clear c23b1
           try clear c24
           try clear c24b0
           try clear c24b1
           try clear c25
           try clear c25b0
           try clear c25b1
           try clear p2
           obtain ⟨kq, x24_21, rfl, HA, HJ21, ⟨mc21, rfl⟩⟩ := hcut
           cases kq with
           | zero => exact absurd HA.out (by simp [quoinref11_About.j3])
           | succ kj21 =>
            have H := HA.out
            clear HA
            simp only [quoinref11_About.j3] at H
            by_cases c26 : x24_21 = true
            ·
             subst c26
             have H1 : (some 8) = some r := by rw [if_pos rfl] at H; exact H
             clear H
             have H := H1
             clear H1
             obtain rfl := Option.some.inj H
             go_wp2
             go_ret
             exact ⟨by first | rfl | (simp; done) | (simp [*]; done), by repeat (first | exact Drawn0.refl _ | apply Drawn0.step)⟩
            ·
             replace c26 := Bool.eq_false_iff.mpr c26
             subst c26
             have H1 : (if a0 = 43 then (some 0) else (if a0 = 51 then (some 0) else (some (-1)))) = some r := by rw [if_neg (show ¬ (false = true) by decide)] at H; exact H
             clear H
             have H := H1
             clear H1
             by_cases c27 : a0 = 43
             ·
              rw [if_pos c27] at H
              have c27b0 : (a0 == 43) = true := beq_iff_eq.mpr c27
              have c27b1 : (a0 != 43) = false := bne_eq_false_iff_eq.mpr c27
              clear c27
              obtain rfl := Option.some.inj H
              go_wp2
              go_ret
              exact ⟨by first | rfl | (simp; done) | (simp [*]; done), by repeat (first | exact Drawn0.refl _ | apply Drawn0.step)⟩
             ·
              rw [if_neg c27] at H
              have c27b0 : (a0 == 43) = false := beq_eq_false_iff_ne.mpr c27
              have c27b1 : (a0 != 43) = true := bne_iff_ne.mpr c27
              by_cases c28 : a0 = 51
              ·
               rw [if_pos c28] at H
               have c28b0 : (a0 == 51) = true := beq_iff_eq.mpr c28
               have c28b1 : (a0 != 51) = false := bne_eq_false_iff_eq.mpr c28
               clear c28
               obtain rfl := Option.some.inj H
               go_wp2
               go_ret
               exact ⟨by first | rfl | (simp; done) | (simp [*]; done), by repeat (first | exact Drawn0.refl _ | apply Drawn0.step)⟩
              ·
               rw [if_neg c28] at H
               have c28b0 : (a0 == 51) = false := beq_eq_false_iff_ne.mpr c28
               have c28b1 : (a0 != 51) = true := bne_iff_ne.mpr c28
               obtain rfl := Option.some.inj H
               go_wp2
               go_ret
               exact ⟨by first | rfl | (simp; done) | (simp [*]; done), by repeat (first | exact Drawn0.refl _ | apply Drawn0.step)⟩

/-! ### quoinref11_Field: function 6 -/
def quoinref11_Field.f (k : Nat) (a0 : Int) : Option (Int × Int) := (quoinref11_About.f k a0).bind fun t103 => (if t103 < 0 then (some (0, 2)) else (some (t103, 0)))
theorem quoinref11_Field.mono : ∀ a0 k, LeO (quoinref11_Field.f k a0) (quoinref11_Field.f (k + 1) a0) := by
 intro a0 k
 unfold quoinref11_Field.f
 repeat' first
   | (with_reducible exact quoinref11_About.mono _ _)
   | (with_reducible exact LeO.refl _)
   | (with_reducible exact LeO.none _)
   | (with_reducible refine LeO.ite ?_ ?_)
   | (with_reducible refine LeO.bind ?_ (fun _ => ?_))
   | exact quoinref11_About.mono _ _
   | exact LeO.none _
   | refine LeO.ite ?_ ?_
   | refine LeO.bind ?_ (fun _ => ?_)
set_option maxHeartbeats 8000000 in
set_option maxRecDepth 100000 in
theorem quoinref11_Field.calls (k : Nat) (a0 : Int) (r1 : Int) (r2 : Int) (w : World) (h : quoinref11_Field.f k a0 = some (r1, r2)) :
  Calls Try.prog 6 #[.int .u8 a0] w fun e w' => e = .returned (.tuple #[.int .i64 r1, .int .i64 r2]) ∧ Drawn0 w w' := by
 have H : ((quoinref11_About.f k a0).bind fun t103 => (if t103 < 0 then (some (0, 2)) else (some (t103, 0)))) = some (r1, r2) := h
 clear h
 replace H := Option.bind_eq_some_iff.mp H
 obtain ⟨t103, A20, H⟩ := H
 replace H : (if t103 < 0 then (some (0, 2)) else (some (t103, 0))) = some (r1, r2) := H
 have A2 := Aside0.mk A20
 clear A20
 by_cases c3 : t103 < 0
 ·
  rw [if_pos c3] at H
  have c3b0 : decide (t103 < 0) = true := decide_eq_true c3
  clear c3
  simp only [Option.some.injEq, Prod.mk.injEq] at H
  obtain ⟨rfl, rfl⟩ := H
  go_enter Try.func6, Try.ntmps6
  go_wp2_with (first | ((with_reducible refine gate_callee (f := 13) rfl ?_); refine goesL_ (some 6) rfl rfl Try.func13 (by kernel_rfl) rfl #[.int .u8 a0] rfl (by (try simp only [List.map_toArray, List.map_cons, List.map_nil]); first | done | rfl | (simp only [List.length_drop, List.length_take]; rfl)) ?_; (with_reducible refine (quoinref11_About.calls k a0 t103 _ A2.out).mono ?_); rintro e w' ⟨rfl, ⟨nd, rfl⟩⟩; refine ⟨_, rfl, ?_⟩))
  go_ret2
  exact ⟨by first | rfl | (simp; done) | (simp [*]; done), by repeat (first | exact Drawn0.refl _ | apply Drawn0.step)⟩
 ·
  rw [if_neg c3] at H
  have c3b0 : decide (t103 < 0) = false := decide_eq_false c3
  clear c3
  simp only [Option.some.injEq, Prod.mk.injEq] at H
  obtain ⟨rfl, rfl⟩ := H
  go_enter Try.func6, Try.ntmps6
  go_wp2_with (first | ((with_reducible refine gate_callee (f := 13) rfl ?_); refine goesL_ (some 6) rfl rfl Try.func13 (by kernel_rfl) rfl #[.int .u8 a0] rfl (by (try simp only [List.map_toArray, List.map_cons, List.map_nil]); first | done | rfl | (simp only [List.length_drop, List.length_take]; rfl)) ?_; (with_reducible refine (quoinref11_About.calls k a0 t103 _ A2.out).mono ?_); rintro e w' ⟨rfl, ⟨nd, rfl⟩⟩; refine ⟨_, rfl, ?_⟩))
  go_ret2
  exact ⟨by first | rfl | (simp; done) | (simp [*]; done), by repeat (first | exact Drawn0.refl _ | apply Drawn0.step)⟩

/-! ### le_sizes: function 23 -/
def le_sizes.f (a0 : Int) : Option (Bool) := if a0 = 1 then (some true) else (if a0 = 2 then (some true) else (if a0 = 4 then (some true) else (some (a0 == 8))))
set_option maxHeartbeats 8000000 in
set_option maxRecDepth 100000 in
theorem le_sizes.calls (a0 : Int) (r : Bool) (w : World) (h : le_sizes.f a0 = some r) :
  Calls Try.prog 23 #[.int .i64 a0] w fun e w' => e = .returned (.bool r) ∧ Drawn0 w w' := by
 have H : (if a0 = 1 then (some true) else (if a0 = 2 then (some true) else (if a0 = 4 then (some true) else (some (a0 == 8))))) = some r := h
 clear h
 by_cases c2 : a0 = 1
 ·
  rw [if_pos c2] at H
  have c2b0 : (a0 == 1) = true := beq_iff_eq.mpr c2
  have c2b1 : (a0 != 1) = false := bne_eq_false_iff_eq.mpr c2
  clear c2
  obtain rfl := Option.some.inj H
  go_enter Try.func23, Try.ntmps23
  go_wp2
  go_ret
  exact ⟨by first | rfl | (simp; done) | (simp [*]; done), by repeat (first | exact Drawn0.refl _ | apply Drawn0.step)⟩
 ·
  rw [if_neg c2] at H
  have c2b0 : (a0 == 1) = false := beq_eq_false_iff_ne.mpr c2
  have c2b1 : (a0 != 1) = true := bne_iff_ne.mpr c2
  by_cases c3 : a0 = 2
  ·
   rw [if_pos c3] at H
   have c3b0 : (a0 == 2) = true := beq_iff_eq.mpr c3
   have c3b1 : (a0 != 2) = false := bne_eq_false_iff_eq.mpr c3
   clear c3
   obtain rfl := Option.some.inj H
   go_enter Try.func23, Try.ntmps23
   go_wp2
   go_ret
   exact ⟨by first | rfl | (simp; done) | (simp [*]; done), by repeat (first | exact Drawn0.refl _ | apply Drawn0.step)⟩
  ·
   rw [if_neg c3] at H
   have c3b0 : (a0 == 2) = false := beq_eq_false_iff_ne.mpr c3
   have c3b1 : (a0 != 2) = true := bne_iff_ne.mpr c3
   by_cases c4 : a0 = 4
   ·
    rw [if_pos c4] at H
    have c4b0 : (a0 == 4) = true := beq_iff_eq.mpr c4
    have c4b1 : (a0 != 4) = false := bne_eq_false_iff_eq.mpr c4
    clear c4
    obtain rfl := Option.some.inj H
    go_enter Try.func23, Try.ntmps23
    go_wp2
    go_ret
    exact ⟨by first | rfl | (simp; done) | (simp [*]; done), by repeat (first | exact Drawn0.refl _ | apply Drawn0.step)⟩
   ·
    rw [if_neg c4] at H
    have c4b0 : (a0 == 4) = false := beq_eq_false_iff_ne.mpr c4
    have c4b1 : (a0 != 4) = true := bne_iff_ne.mpr c4
    obtain rfl := Option.some.inj H
    go_enter Try.func23, Try.ntmps23
    go_wp2
    go_ret
    exact ⟨by first | rfl | (simp; done) | (simp [*]; done), by repeat (first | exact Drawn0.refl _ | apply Drawn0.step)⟩

/-! ### le_Put: function 14 -/
mutual
def le_Put.j0 : Nat → Int → Int → Bool → Option (List Int × Int)
 | 0, _, _, _ => none
 | k + 1, x0, x1, x25 => if x25 = true then (some (([] : List Int), 2)) else (if 0 ≤ x1 then (if (x1 : Int).toNat ≤ 281474976710656 then ((some (List.replicate (x1 : Int).toNat 0 : List Int)).bind fun y105 => (le_Put.l0 k x0 y105 (y105.length : Int) 0)) else (none)) else (none))
def le_Put.l0 : Nat → Int → List Int → Int → Int → Option (List Int × Int)
 | 0, _, _, _, _ => none
 | k + 1, x0, x6, x29, x30 => if x30 < x29 then (if 0 ≤ (wrap64 (8 * x30)) then (if 0 ≤ x30 then (if x30 < (x6.length : Int) then (le_Put.l0 k x0 (x6.set (x30 : Int).toNat ((shr .u64 (IntKind.u64.wrap (x0)) (wrap64 (8 * x30))) % 256)) x29 (wrap64 (x30 + 1))) else (none)) else (none)) else (none)) else (some (x6, 0))
end
def le_Put.f (k : Nat) (a0 : Int) (a1 : Int) : Option (List Int × Int) := (le_sizes.f a1).bind fun t104 => (if t104 = true then (if a1 < 8 then (if a0 < 0 then (le_Put.j0 k a0 a1 true) else (if 0 ≤ (wrap64 (8 * a1)) then (le_Put.j0 k a0 a1 ((shr .i64 a0 (wrap64 (8 * a1))) != 0)) else (none))) else (le_Put.j0 k a0 a1 false)) else (le_Put.j0 k a0 a1 true))
theorem le_Put.mono_l : ∀ k, (∀ y0 y1 y2, LeO (le_Put.j0 k y0 y1 y2) (le_Put.j0 (k + 1) y0 y1 y2)) ∧ (∀ y0 y1 y2 y3, LeO (le_Put.l0 k y0 y1 y2 y3) (le_Put.l0 (k + 1) y0 y1 y2 y3))
 | 0 => ⟨fun _ _ _ r h => by simp [le_Put.j0] at h, fun _ _ _ _ r h => by simp [le_Put.l0] at h⟩
 | k + 1 => by
  obtain ⟨ih0, ih1⟩ := le_Put.mono_l k
  refine ⟨?_, ?_⟩
  ·
   intro y0 y1 y2
   unfold le_Put.j0
   repeat' first
   | (with_reducible exact ih0 _ _ _)
   | (with_reducible exact ih1 _ _ _ _)
   | (with_reducible exact LeO.refl _)
   | (with_reducible exact LeO.none _)
   | (with_reducible refine LeO.ite ?_ ?_)
   | (with_reducible refine LeO.bind ?_ (fun _ => ?_))
   | exact ih0 _ _ _
   | exact ih1 _ _ _ _
   | exact LeO.none _
   | refine LeO.ite ?_ ?_
   | refine LeO.bind ?_ (fun _ => ?_)
  ·
   intro y0 y1 y2 y3
   unfold le_Put.l0
   repeat' first
   | (with_reducible exact ih0 _ _ _)
   | (with_reducible exact ih1 _ _ _ _)
   | (with_reducible exact LeO.refl _)
   | (with_reducible exact LeO.none _)
   | (with_reducible refine LeO.ite ?_ ?_)
   | (with_reducible refine LeO.bind ?_ (fun _ => ?_))
   | exact ih0 _ _ _
   | exact ih1 _ _ _ _
   | exact LeO.none _
   | refine LeO.ite ?_ ?_
   | refine LeO.bind ?_ (fun _ => ?_)
theorem le_Put.mono : ∀ a0 a1 k, LeO (le_Put.f k a0 a1) (le_Put.f (k + 1) a0 a1) := by
 intro a0 a1 k
 obtain ⟨ih0, ih1⟩ := le_Put.mono_l k
 unfold le_Put.f
 repeat' first
   | (with_reducible exact ih0 _ _ _)
   | (with_reducible exact ih1 _ _ _ _)
   | (with_reducible exact LeO.refl _)
   | (with_reducible exact LeO.none _)
   | (with_reducible refine LeO.ite ?_ ?_)
   | (with_reducible refine LeO.bind ?_ (fun _ => ?_))
   | exact ih0 _ _ _
   | exact ih1 _ _ _ _
   | exact LeO.none _
   | refine LeO.ite ?_ ?_
   | refine LeO.bind ?_ (fun _ => ?_)
set_option maxHeartbeats 8000000 in
set_option maxRecDepth 100000 in
theorem le_Put.calls (k : Nat) (a0 : Int) (a1 : Int) (r1 : List Int) (r2 : Int) (w : World) (h : le_Put.f k a0 a1 = some (r1, r2)) :
  Calls Try.prog 14 #[.int .i64 a0, .int .i64 a1] w fun e w' => ∃ v0_ : Value, e = .returned (.tuple #[v0_, .int .i64 r2]) ∧ Kd.R (Kd.int .u8) 5 w' w.heap.size (fun _ => True) v0_ r1 ∧ Below w.heap.size w w' := by
 have HB := Aside0.mk (Below.refl w.heap.size w)
 have H : ((le_sizes.f a1).bind fun t104 => (if t104 = true then (if a1 < 8 then (if a0 < 0 then (le_Put.j0 k a0 a1 true) else (if 0 ≤ (wrap64 (8 * a1)) then (le_Put.j0 k a0 a1 ((shr .i64 a0 (wrap64 (8 * a1))) != 0)) else (none))) else (le_Put.j0 k a0 a1 false)) else (le_Put.j0 k a0 a1 true))) = some (r1, r2) := h
 clear h
 have HC3 := Aside0.mk H
 clear H
 go_enter Try.func14, Try.ntmps14
 go_upto_region 1 with (fail)
 go_cut [25] (fun v25 wc => ∃ (kq : Nat) (x25_2 : Bool), v25 = .bool x25_2 ∧ Aside0 (le_Put.j0 kq a0 a1 x25_2 = some (r1, r2)) ∧ Aside0 (kq ≤ k) ∧ Aside0 (Below w.heap.size w wc))
 case first =>
  have H := HC3.out
  clear HC3
  replace H := Option.bind_eq_some_iff.mp H
  obtain ⟨t104, A40, H⟩ := H
  replace H : (if t104 = true then (if a1 < 8 then (if a0 < 0 then (le_Put.j0 k a0 a1 true) else (if 0 ≤ (wrap64 (8 * a1)) then (le_Put.j0 k a0 a1 ((shr .i64 a0 (wrap64 (8 * a1))) != 0)) else (none))) else (le_Put.j0 k a0 a1 false)) else (le_Put.j0 k a0 a1 true)) = some (r1, r2) := H
  have A4 := Aside0.mk A40
  clear A40
  by_cases c5 : t104 = true
  ·
   subst c5
   have H1 : (if a1 < 8 then (if a0 < 0 then (le_Put.j0 k a0 a1 true) else (if 0 ≤ (wrap64 (8 * a1)) then (le_Put.j0 k a0 a1 ((shr .i64 a0 (wrap64 (8 * a1))) != 0)) else (none))) else (le_Put.j0 k a0 a1 false)) = some (r1, r2) := by rw [if_pos rfl] at H; exact H
   clear H
   have H := H1
   clear H1
   by_cases c6 : a1 < 8
   ·
    rw [if_pos c6] at H
    have c6b0 : decide (a1 < 8) = true := decide_eq_true c6
    clear c6
    (first | rw [c6b0] | (simp only [i64_w, i32_w]; rw [c6b0]) | skip)
    by_cases c7 : a0 < 0
    ·
     rw [if_pos c7] at H
     have c7b0 : decide (a0 < 0) = true := decide_eq_true c7
     clear c7
     have H' := Aside0.mk H
     clear H
     go_wp2_with (first | ((with_reducible refine gate_callee (f := 23) rfl ?_); refine goesL_ (some 9) rfl rfl Try.func23 (by kernel_rfl) rfl #[.int .i64 a1] rfl (by (try simp only [List.map_toArray, List.map_cons, List.map_nil]); first | done | rfl | (simp only [List.length_drop, List.length_take]; rfl)) ?_; (with_reducible refine (le_sizes.calls a1 true _ A4.out).mono ?_); rintro e w' ⟨rfl, ⟨nd, rfl⟩⟩; refine ⟨_, rfl, ?_⟩))
     go_meet
     case rel => exact ⟨_, (true), (by first | rfl | (simp; done) | (simp [*]; done)), H', ⟨by first | omega | exact Nat.le_refl _⟩, ⟨by repeat (first | (with_reducible first | exact HB.out | apply below_alloc | apply pw_below_drewN | apply below_drew1) | exact HB.out)⟩⟩
    ·
     rw [if_neg c7] at H
     have c7b0 : decide (a0 < 0) = false := decide_eq_false c7
     clear c7
     obtain ⟨ji8, hji8⟩ : ∃ j_ : Int, (wrap64 (8 * a1)) = j_ := ⟨_, rfl⟩
     replace H : (if 0 ≤ (ji8) then (le_Put.j0 k a0 a1 ((shr .i64 a0 (ji8)) != 0)) else (none)) = some (r1, r2) := by first | (rw [hji8] at H; exact H) | (simp only [hji8] at H ⊢; exact H)
     (try rw [hji8] at A4)
     have hji8w : (IntKind.i64.wrap (8 * a1)) = ji8 := (i64_w _).trans hji8
     by_cases c9 : 0 ≤ (ji8)
     ·
      rw [if_pos c9] at H
      have c9b0 := eq_true c9
      have c9b1 : decide (0 ≤ (ji8)) = true := decide_eq_true c9
      clear c9
      obtain ⟨ji10, hji10⟩ : ∃ j_ : Int, (shr .i64 a0 (ji8)) = j_ := ⟨_, rfl⟩
      replace H : (le_Put.j0 k a0 a1 ((ji10) != 0)) = some (r1, r2) := by first | (rw [hji10] at H; exact H) | (simp only [hji10] at H ⊢; exact H)
      (try rw [hji10] at A4)
      have hji10_ : (a0 / 2 ^ min (ji8).toNat 64) = ji10 := hji10
      have hji10z : (ji8) ≤ 64 → (a0 / 2 ^ (ji8).toNat) = ji10 := shr_small hji10
      have H' := Aside0.mk H
      clear H
      go_wp2_with (first | ((with_reducible refine gate_callee (f := 23) rfl ?_); refine goesL_ (some 9) rfl rfl Try.func23 (by kernel_rfl) rfl #[.int .i64 a1] rfl (by (try simp only [List.map_toArray, List.map_cons, List.map_nil]); first | done | rfl | (simp only [List.length_drop, List.length_take]; rfl)) ?_; (with_reducible refine (le_sizes.calls a1 true _ A4.out).mono ?_); rintro e w' ⟨rfl, ⟨nd, rfl⟩⟩; refine ⟨_, rfl, ?_⟩))
      go_meet
      case rel => exact ⟨_, (((ji10) != 0)), (by first | rfl | (simp; done) | (simp only [← hji10] <;> (first | rfl | simp)) | (simp [*]; done)), H', ⟨by first | omega | exact Nat.le_refl _⟩, ⟨by repeat (first | (with_reducible first | exact HB.out | apply below_alloc | apply pw_below_drewN | apply below_drew1) | exact HB.out)⟩⟩
     ·
      rw [if_neg c9] at H
      exact absurd H (by simp)
   ·
    rw [if_neg c6] at H
    have c6b0 : decide (a1 < 8) = false := decide_eq_false c6
    clear c6
    (first | rw [c6b0] | (simp only [i64_w, i32_w]; rw [c6b0]) | skip)
    have H' := Aside0.mk H
    clear H
    go_wp2_with (first | ((with_reducible refine gate_callee (f := 23) rfl ?_); refine goesL_ (some 9) rfl rfl Try.func23 (by kernel_rfl) rfl #[.int .i64 a1] rfl (by (try simp only [List.map_toArray, List.map_cons, List.map_nil]); first | done | rfl | (simp only [List.length_drop, List.length_take]; rfl)) ?_; (with_reducible refine (le_sizes.calls a1 true _ A4.out).mono ?_); rintro e w' ⟨rfl, ⟨nd, rfl⟩⟩; refine ⟨_, rfl, ?_⟩))
    go_meet
    case rel => exact ⟨_, (false), (by first | rfl | (simp; done) | (simp [*]; done)), H', ⟨by first | omega | exact Nat.le_refl _⟩, ⟨by repeat (first | (with_reducible first | exact HB.out | apply below_alloc | apply pw_below_drewN | apply below_drew1) | exact HB.out)⟩⟩
  ·
   replace c5 := Bool.eq_false_iff.mpr c5
   subst c5
   have H1 : (le_Put.j0 k a0 a1 true) = some (r1, r2) := by rw [if_neg (show ¬ (false = true) by decide)] at H; exact H
   clear H
   have H := H1
   clear H1
   have H' := Aside0.mk H
   clear H
   go_wp2_with (first | ((with_reducible refine gate_callee (f := 23) rfl ?_); refine goesL_ (some 9) rfl rfl Try.func23 (by kernel_rfl) rfl #[.int .i64 a1] rfl (by (try simp only [List.map_toArray, List.map_cons, List.map_nil]); first | done | rfl | (simp only [List.length_drop, List.length_take]; rfl)) ?_; (with_reducible refine (le_sizes.calls a1 false _ A4.out).mono ?_); rintro e w' ⟨rfl, ⟨nd, rfl⟩⟩; refine ⟨_, rfl, ?_⟩))
   go_meet
   case rel => exact ⟨_, (true), (by first | rfl | (simp; done) | (simp [*]; done)), H', ⟨by first | omega | exact Nat.le_refl _⟩, ⟨by repeat (first | (with_reducible first | exact HB.out | apply below_alloc | apply pw_below_drewN | apply below_drew1) | exact HB.out)⟩⟩
 case rest =>
  clear HC3
  try clear c1
  try clear c2
  try clear p2
  try clear c5
  try clear c6
  try clear c6b0
  try clear p6
  try clear c7
  try clear c7b0
  try clear c9
  try clear c9b0
  try clear c9b1
  obtain ⟨kq, x25_2, rfl, HA, HJ2, HB⟩ := hcut
  cases kq with
  | zero => exact absurd HA.out (by simp [le_Put.j0])
  | succ kj2 =>
   have H := HA.out
   clear HA
   simp only [le_Put.j0] at H
   by_cases c11 : x25_2 = true
   ·
    subst c11
    have H1 : (some (([] : List Int), 2)) = some (r1, r2) := by rw [if_pos rfl] at H; exact H
    clear H
    have H := H1
    clear H1
    simp only [Option.some.injEq, Prod.mk.injEq] at H
    obtain ⟨rfl, rfl⟩ := H
    go_wp2
    go_ret2
    exact ⟨_, by first | rfl | (simp [errW_none, errW_some] <;> rfl) | (simp [*, errW_none, errW_some] <;> rfl), by first | exact Kd.R_nil _ _ _ _ _ | exact Kd.N_nil _ _ _ _ _ | exact Kd.V_nil _ _ _ _ _ | exact Kd.Q_nil _ _ _ _ _ | exact Kd.S_nil _ _ _ _ _, by repeat (first | (with_reducible first | exact HB.out | apply below_alloc | apply pw_below_drewN | apply below_drew1) | exact HB.out)⟩
   ·
    replace c11 := Bool.eq_false_iff.mpr c11
    subst c11
    have H1 : (if 0 ≤ a1 then (if (a1 : Int).toNat ≤ 281474976710656 then ((some (List.replicate (a1 : Int).toNat 0 : List Int)).bind fun y105 => (le_Put.l0 kj2 a0 y105 (y105.length : Int) 0)) else (none)) else (none)) = some (r1, r2) := by rw [if_neg (show ¬ (false = true) by decide)] at H; exact H
    clear H
    have H := H1
    clear H1
    by_cases c12 : 0 ≤ a1
    ·
     rw [if_pos c12] at H
     have c12b0 := eq_true c12
     have c12b1 : decide (0 ≤ a1) = true := decide_eq_true c12
     clear c12
     by_cases c13 : (a1 : Int).toNat ≤ 281474976710656
     ·
      rw [if_pos c13] at H
      have c13b0 := eq_true c13
      have c13b1 : decide ((a1 : Int).toNat ≤ 281474976710656) = true := decide_eq_true c13
      clear c13
      obtain ⟨y105, hy105⟩ : ∃ y_ : List Int, y_ = (List.replicate (a1 : Int).toNat 0) := ⟨_, rfl⟩
      replace H : (le_Put.l0 kj2 a0 y105 (y105.length : Int) 0) = some (r1, r2) := by first | (rw [hy105]; with_reducible exact H) | (have H2_ := (Option.bind_some _ _).symm.trans H; rw [hy105]; with_reducible exact H2_) | (have H2_ := (Option.bind_some _ _).symm.trans H; with_reducible exact H2_) | with_reducible exact H | (rw [hy105]; exact H) | exact H
      have Ny105 := Aside0.mk hy105
      clear hy105
      have H' := Aside0.mk H
      clear H
      go_wp2_with (first | ((with_reducible refine gate_dst (N := 27) rfl ?_); refine Kd.R_make (Kd.int .u8) _ 5 rfl (N := 27) rfl 25 _ _ rfl a1 rfl rfl Try.underlying25 (.int .u8 0) 1 info5 rfl (by decide) (by omega) 0 (ok := fun _ => True) (okp := fun _ => True) rfl (fun _ hk => hk) trivial (of_decide_eq_true (by first | (with_reducible assumption) | assumption)) (Nat.le_trans (Nat.mul_le_mul_right _ (of_decide_eq_true (by first | (with_reducible assumption) | assumption) : a1.toNat ≤ 281474976710656)) (by omega)) (Below.refl _ _) (Nat.le_refl _) ?_; intro v106 w14 ho15 hb hg_ hnew_; clear hg_ hnew_; (first | rw [← Ny105.out] at ho15 | (simp only [Int.reduceToNat] at ho15; rw [← Ny105.out] at ho15)); have n0_ := Aside0.mk (Kd.R_lower ho15 (below_size (by repeat (first | (with_reducible first | exact HB.out | apply below_alloc | apply pw_below_drewN | apply below_drew1) | exact HB.out)))); have n1_ := Aside0.mk (below_step (by repeat (first | (with_reducible first | exact HB.out | apply below_alloc | apply pw_below_drewN | apply below_drew1) | exact HB.out)) hb); clear HB; have HO107 := n0_; have HB := n1_; clear n0_ n1_; clear hb ho15; obtain ⟨Ao16, co16, eo16⟩ := Kd.R_slice HO107.out; subst eo16))
      go_loopg [30] kj2 (fun kq v30 w' => ∃ (x6_2 : List Int) (x30_2 : Int), v30 = .int .i64 x30_2 ∧ Aside0 (le_Put.l0 kq a0 x6_2 (y105.length : Int) x30_2 = some (r1, r2)) ∧ Aside0 (kq ≤ kj2) ∧ Aside0 (Kd.R (Kd.int .u8) 5 w' w.heap.size (fun _ => True) (.slice Ao16 y105.length co16) x6_2) ∧ Aside0 (Below w.heap.size w w'))
      case atStart => exact ⟨(y105), (0), (by first | rfl | (simp; done) | (simp [*]; done)), H', ⟨Nat.le_refl _⟩, ⟨by (with_reducible repeat (first | apply Kd.R_alloc | apply Kd.R_drewN | apply Kd.R_drew)); exact HO107.out⟩, ⟨by repeat (first | (with_reducible first | exact HB.out | apply below_alloc | apply pw_below_drewN | apply below_drew1) | exact HB.out)⟩⟩
      case round =>
       clear H'
       try clear c1
       try clear c2
       try clear p2
       try clear c5
       try clear c6
       try clear c6b0
       try clear p6
       try clear c7
       try clear c7b0
       try clear c9
       try clear c9b0
       try clear c9b1
       try clear c11
       try clear c12
       try clear c12b0
       try clear c12b1
       try clear c13
       try clear c13b0
       try clear c13b1
       try clear c14
       try clear p2
       try clear p6
       obtain ⟨x6_2, x30_2, rfl, HA, HK2, HO_6, HB⟩ := hrel
       have hl6_2 := (Kd.R_reads' HO_6.out).1
       rw [hl6_2] at HO_6
       (try simp only [hl6_2])
       cases gk with
       | zero => exact absurd HA.out (by simp [le_Put.l0])
       | succ k2 =>
        have H := HA.out
        clear HA
        simp only [le_Put.l0] at H
        by_cases c17 : x30_2 < (y105.length : Int)
        ·
         rw [if_pos c17] at H
         have c17b0 : decide (x30_2 < (y105.length : Int)) = true := decide_eq_true c17
         (try (have c17b0_ := c17b0; rw [hl6_2] at c17b0_))
         clear c17
         obtain ⟨ji18, hji18⟩ : ∃ j_ : Int, (wrap64 (8 * x30_2)) = j_ := ⟨_, rfl⟩
         replace H : (if 0 ≤ (ji18) then (if 0 ≤ x30_2 then (if x30_2 < (x6_2.length : Int) then (le_Put.l0 k2 a0 (x6_2.set (x30_2 : Int).toNat ((shr .u64 (IntKind.u64.wrap (a0)) (ji18)) % 256)) (y105.length : Int) (wrap64 (x30_2 + 1))) else (none)) else (none)) else (none)) = some (r1, r2) := by first | (rw [hji18] at H; exact H) | (simp only [hji18] at H ⊢; exact H)
         have hji18w : (IntKind.i64.wrap (8 * x30_2)) = ji18 := (i64_w _).trans hji18
         by_cases c19 : 0 ≤ (ji18)
         ·
          rw [if_pos c19] at H
          have c19b0 := eq_true c19
          have c19b1 : decide (0 ≤ (ji18)) = true := decide_eq_true c19
          clear c19
          obtain ⟨ji20, hji20⟩ : ∃ j_ : Int, (shr .u64 (IntKind.u64.wrap (a0)) (ji18)) = j_ := ⟨_, rfl⟩
          replace H : (if 0 ≤ x30_2 then (if x30_2 < (x6_2.length : Int) then (le_Put.l0 k2 a0 (x6_2.set (x30_2 : Int).toNat ((ji20) % 256)) (y105.length : Int) (wrap64 (x30_2 + 1))) else (none)) else (none)) = some (r1, r2) := by first | (rw [hji20] at H; exact H) | (simp only [hji20] at H ⊢; exact H)
          have hji20_ : ((IntKind.u64.wrap (a0)) / 2 ^ min (ji18).toNat 64) = ji20 := hji20
          have hji20z : (ji18) ≤ 64 → ((IntKind.u64.wrap (a0)) / 2 ^ (ji18).toNat) = ji20 := shr_small hji20
          by_cases c21 : 0 ≤ x30_2
          ·
           rw [if_pos c21] at H
           have c21b0 : decide (0 ≤ x30_2) = true := decide_eq_true c21
           (try (have c21b0_ := c21b0; rw [hl6_2] at c21b0_))
           clear c21
           by_cases c22 : x30_2 < (x6_2.length : Int)
           ·
            rw [if_pos c22] at H
            have c22b0 : decide (x30_2 < (x6_2.length : Int)) = true := decide_eq_true c22
            (try (have c22b0_ := c22b0; rw [hl6_2] at c22b0_))
            clear c22
            obtain ⟨y108, hy108⟩ : ∃ y_ : List Int, y_ = (x6_2.set (x30_2 : Int).toNat ((ji20) % 256)) := ⟨_, rfl⟩
            replace H : (le_Put.l0 k2 a0 y108 (y105.length : Int) (wrap64 (x30_2 + 1))) = some (r1, r2) := by first | (rw [hy108]; with_reducible exact H) | (have H2_ := (Option.bind_some _ _).symm.trans H; rw [hy108]; with_reducible exact H2_) | (have H2_ := (Option.bind_some _ _).symm.trans H; with_reducible exact H2_) | with_reducible exact H | (rw [hy108]; exact H) | exact H
            have Ny108 := Aside0.mk hy108
            clear hy108
            have H' := Aside0.mk H
            clear H
            have p23 : 0 ≤ (x30_2 : Int) := of_decide_eq_true (by first | (with_reducible assumption) | assumption)
            have q23 : (x30_2 : Int) < ((x6_2.length : Int) : Int) := of_decide_eq_true (by first | (with_reducible assumption) | assumption)
            obtain ⟨go23, co23, eo23, gb23, gl23, cl23, HG23⟩ := Kd.R_form HO_6.out (by omega)
            (first | cases eo23 | (injection eo23 with ea_ en_ ec_; (first | subst ea_ | (injection ea_ with ea_; subst ea_)); subst ec_; clear en_))
            have GB23 := Aside0.mk gb23
            have GG23 := Aside0.mk HG23
            clear gb23 gl23 HG23
            obtain ⟨hx23_0, hf23_0⟩ := Kd.R_celln 0 HO_6.out (x30_2 : Int) p23 q23
            replace p23 := eq_true p23
            replace q23 := eq_true q23
            have HP24 := Kd.R_putg HO_6.out (x30_2 : Int) ((ji20) % 256)
            go_wp2_with (first | ((with_reducible refine gate_store (t := 5) (p := 41) rfl ?_); refine store_event (t := 5) (p := 41) (v := ?vo_w25) (w1 := (wr.setCell ⟨go23, (x30_2 : Int).toNat, none⟩ (.int .u8 ((ji20) % 256)))) ?hg ?ho ?hn ?hr ?_; (case ho => rfl); (case hg => rfl); (case hn => rfl); (case hr => first | (go_simp; done) | (go_simp; rfl)); intro w25 hw; have hg : wr.grownBy w25 (some go23) := (by rw [hw]; exact HP24.2); have hp_ : Kd.R (Kd.int .u8) 5 w25 w.heap.size (fun _ => True) (.slice (some ⟨go23, 0, none⟩) x6_2.length co16) y108 := (by rw [hw, Ny108.out]; exact HP24.1); clear HP24; have n0_ := Aside0.mk (hp_); have n1_ := Aside0.mk ((by rw [hw]; exact below_set (HB.out) GB23.out : Below w.heap.size w w25)); clear HO_6; clear HB; have HO_6 := n0_; have HB := n1_; clear n0_ n1_; clear hg hw hp_))
            (try simp only [← hl6_2])
            go_roundg k2
            case measure => have := HJ2.out; have := HK2.out; omega
            case rel => exact ⟨(y108), (wrap64 (x30_2 + 1)), (by first | rfl | (simp; done) | (simp [*]; done)), H', ⟨by have := HJ2.out; have := HK2.out; omega⟩, ⟨by (try simp only [hl6_2]); (with_reducible repeat (first | apply Kd.R_alloc | apply Kd.R_drewN | apply Kd.R_drew)); exact HO_6.out⟩, ⟨by repeat (first | (with_reducible first | exact HB.out | apply below_alloc | apply pw_below_drewN | apply below_drew1) | exact HB.out)⟩⟩
           ·
            rw [if_neg c22] at H
            exact absurd H (by simp)
          ·
           rw [if_neg c21] at H
           exact absurd H (by simp)
         ·
          rw [if_neg c19] at H
          exact absurd H (by simp)
        ·
         rw [if_neg c17] at H
         have c17b0 : decide (x30_2 < (y105.length : Int)) = false := decide_eq_false c17
         (try (have c17b0_ := c17b0; rw [hl6_2] at c17b0_))
         clear c17
         simp only [Option.some.injEq, Prod.mk.injEq] at H
         obtain ⟨rfl, rfl⟩ := H
         go_wp2
         go_ret2
         exact ⟨_, by first | rfl | (simp [errW_none, errW_some] <;> rfl) | (simp [*, errW_none, errW_some] <;> rfl), by (with_reducible repeat (first | apply Kd.R_alloc | apply Kd.R_drewN | apply Kd.R_drew)); exact HO_6.out, by repeat (first | (with_reducible first | exact HB.out | apply below_alloc | apply pw_below_drewN | apply below_drew1) | exact HB.out)⟩
     ·
      rw [if_neg c13] at H
      exact absurd H (by simp)
    ·
     rw [if_neg c12] at H
     exact absurd H (by simp)


/-! ### rela_Write: function 7 -/
def rela_Write.go (k : Nat) : List (Int × Int) → List Int → Option (List Int × Int)
  | [], acc => some (acc, 0)
  | p :: l, acc => (le_Put.f k p.1 p.2).bind fun q => if acc.length + q.1.length < 140737488355328 then rela_Write.go k l (acc ++ q.1) else none
def rela_Write.f (k : Nat) (a0_0 a0_1 a0_2 a0_3 a0_4 : Int) : Option (List Int × Int) := (rela_Field.f k a0_2).bind fun q => if q.2 = 0 then (if a0_1 < 0 then some (([] : List Int), (8 : Int)) else (if a0_1 > 4096 then some (([] : List Int), (8 : Int)) else (if a0_3 < -1 then some (([] : List Int), (8 : Int)) else (if a0_3 ≥ 64 then some (([] : List Int), (8 : Int)) else (if a0_4 < -2147483648 then some (([] : List Int), (8 : Int)) else (if a0_4 > 4294967295 then some (([] : List Int), (8 : Int)) else rela_Write.go k [(a0_1, 8), ((wrap64 a0_2), 4), (a0_3 + 1, 4), (a0_4, 8)] [])))))) else some (([] : List Int), (8 : Int))
theorem rela_Write.go_mono (k : Nat) : ∀ (l : List (Int × Int)) (acc : List Int), LeO (rela_Write.go k l acc) (rela_Write.go (k + 1) l acc)
  | [], _ => LeO.refl _
  | p :: l, acc => by
    unfold rela_Write.go
    refine LeO.bind (le_Put.mono _ _ _) (fun q => ?_)
    by_cases h3 : acc.length + q.1.length < 140737488355328
    · rw [if_pos h3, if_pos h3]; exact rela_Write.go_mono k l _
    · rw [if_neg h3, if_neg h3]; exact LeO.refl _
theorem rela_Write.mono (a0_0 a0_1 a0_2 a0_3 a0_4 : Int) (k : Nat) : LeO (rela_Write.f k a0_0 a0_1 a0_2 a0_3 a0_4) (rela_Write.f (k + 1) a0_0 a0_1 a0_2 a0_3 a0_4) := by
  unfold rela_Write.f
  refine LeO.bind (rela_Field.mono _ _) (fun q => ?_)
  repeat' first
    | (with_reducible exact rela_Write.go_mono _ _ _)
    | (with_reducible exact LeO.refl _)
    | (with_reducible refine LeO.ite ?_ ?_)
set_option maxHeartbeats 4000000 in
set_option maxRecDepth 1000000 in
theorem rela_Write.calls (k : Nat) (a0_0 a0_1 a0_2 a0_3 a0_4 : Int) (r1 : List Int) (r2 : Int) (w : World) (h : rela_Write.f k a0_0 a0_1 a0_2 a0_3 a0_4 = some (r1, r2)) :
    Calls Try.prog 7 #[.agg #[.int .i64 a0_0, .int .i64 a0_1, .int .u8 a0_2, .int .i64 a0_3, .int .i64 a0_4]] w fun e w' => ∃ v0_ : Value, e = .returned (.tuple #[v0_, .int .i64 r2]) ∧ Kd.R (Kd.int .u8) 5 w' w.heap.size (fun _ => True) v0_ r1 ∧ Below w.heap.size w w' := by
  unfold rela_Write.f at h
  obtain ⟨⟨f1, f2⟩, HF0, h⟩ := Option.bind_eq_some_iff.mp h
  replace h : (if f2 = 0 then (if a0_1 < 0 then some (([] : List Int), (8 : Int)) else (if a0_1 > 4096 then some (([] : List Int), (8 : Int)) else (if a0_3 < -1 then some (([] : List Int), (8 : Int)) else (if a0_3 ≥ 64 then some (([] : List Int), (8 : Int)) else (if a0_4 < -2147483648 then some (([] : List Int), (8 : Int)) else (if a0_4 > 4294967295 then some (([] : List Int), (8 : Int)) else rela_Write.go k [(a0_1, 8), ((wrap64 a0_2), 4), (a0_3 + 1, 4), (a0_4, 8)] [])))))) else some (([] : List Int), (8 : Int))) = some (r1, r2) := h
  have HF := Aside0.mk HF0
  clear HF0
  by_cases cf : f2 = 0
  · rw [if_pos cf] at h
    subst cf
    by_cases c0 : a0_1 < 0
    · rw [if_pos c0] at h
      simp only [Option.some.injEq, Prod.mk.injEq] at h
      obtain ⟨rfl, rfl⟩ := h
      go_enter Try.func7, Try.ntmps7
      go_wp2_with (go_at_call 5; refine (rela_Field.calls k a0_2 f1 _ _ HF.out).mono ?_; rintro e w1 ⟨rfl, ⟨nd, rfl⟩⟩)
      go_ret2
      exact ⟨_, rfl, Kd.R_nil _ _ _ _ _, (by repeat (with_reducible first | exact Below.refl _ _ | apply pw_below_drewN | apply below_drew1 | apply below_alloc))⟩
    · rw [if_neg c0] at h
      by_cases c1 : a0_1 > 4096
      · rw [if_pos c1] at h
        simp only [Option.some.injEq, Prod.mk.injEq] at h
        obtain ⟨rfl, rfl⟩ := h
        go_enter Try.func7, Try.ntmps7
        go_wp2_with (go_at_call 5; refine (rela_Field.calls k a0_2 f1 _ _ HF.out).mono ?_; rintro e w1 ⟨rfl, ⟨nd, rfl⟩⟩)
        go_ret2
        exact ⟨_, rfl, Kd.R_nil _ _ _ _ _, (by repeat (with_reducible first | exact Below.refl _ _ | apply pw_below_drewN | apply below_drew1 | apply below_alloc))⟩
      · rw [if_neg c1] at h
        by_cases c2 : a0_3 < -1
        · rw [if_pos c2] at h
          simp only [Option.some.injEq, Prod.mk.injEq] at h
          obtain ⟨rfl, rfl⟩ := h
          go_enter Try.func7, Try.ntmps7
          go_wp2_with (go_at_call 5; refine (rela_Field.calls k a0_2 f1 _ _ HF.out).mono ?_; rintro e w1 ⟨rfl, ⟨nd, rfl⟩⟩)
          go_ret2
          exact ⟨_, rfl, Kd.R_nil _ _ _ _ _, (by repeat (with_reducible first | exact Below.refl _ _ | apply pw_below_drewN | apply below_drew1 | apply below_alloc))⟩
        · rw [if_neg c2] at h
          by_cases c3 : a0_3 ≥ 64
          · rw [if_pos c3] at h
            simp only [Option.some.injEq, Prod.mk.injEq] at h
            obtain ⟨rfl, rfl⟩ := h
            go_enter Try.func7, Try.ntmps7
            go_wp2_with (go_at_call 5; refine (rela_Field.calls k a0_2 f1 _ _ HF.out).mono ?_; rintro e w1 ⟨rfl, ⟨nd, rfl⟩⟩)
            go_ret2
            exact ⟨_, rfl, Kd.R_nil _ _ _ _ _, (by repeat (with_reducible first | exact Below.refl _ _ | apply pw_below_drewN | apply below_drew1 | apply below_alloc))⟩
          · rw [if_neg c3] at h
            by_cases c4 : a0_4 < -2147483648
            · rw [if_pos c4] at h
              simp only [Option.some.injEq, Prod.mk.injEq] at h
              obtain ⟨rfl, rfl⟩ := h
              go_enter Try.func7, Try.ntmps7
              go_wp2_with (go_at_call 5; refine (rela_Field.calls k a0_2 f1 _ _ HF.out).mono ?_; rintro e w1 ⟨rfl, ⟨nd, rfl⟩⟩)
              go_ret2
              exact ⟨_, rfl, Kd.R_nil _ _ _ _ _, (by repeat (with_reducible first | exact Below.refl _ _ | apply pw_below_drewN | apply below_drew1 | apply below_alloc))⟩
            · rw [if_neg c4] at h
              by_cases c5 : a0_4 > 4294967295
              · rw [if_pos c5] at h
                simp only [Option.some.injEq, Prod.mk.injEq] at h
                obtain ⟨rfl, rfl⟩ := h
                go_enter Try.func7, Try.ntmps7
                go_wp2_with (go_at_call 5; refine (rela_Field.calls k a0_2 f1 _ _ HF.out).mono ?_; rintro e w1 ⟨rfl, ⟨nd, rfl⟩⟩)
                go_ret2
                exact ⟨_, rfl, Kd.R_nil _ _ _ _ _, (by repeat (with_reducible first | exact Below.refl _ _ | apply pw_below_drewN | apply below_drew1 | apply below_alloc))⟩
              · rw [if_neg c5] at h
                go_enter Try.func7, Try.ntmps7
                go_wp2_with (go_at_call 5; refine (rela_Field.calls k a0_2 f1 _ _ HF.out).mono ?_; rintro e w1 ⟨rfl, ⟨nd, rfl⟩⟩)
                go_outline
                go_loopg [6, 64] 5 (fun gf v6 v64 wr => ∃ (j : Nat) (acc : List Int), j + gf = 5 ∧ j ≤ 4 ∧ v64 = .int .i64 j ∧ Kd.R (Kd.int .u8) 5 wr w.heap.size (fun _ => True) v6 acc ∧ rela_Write.go k (([(a0_1, 8), ((wrap64 a0_2), 4), (a0_3 + 1, 4), (a0_4, 8)] : List (Int × Int)).drop j) acc = some (r1, r2)
                    ∧ wr.heap[w.heap.size]? = some (.cells #[.int .i64 a0_0, .int .i64 a0_1, .int .u8 a0_2, .int .i64 a0_3, .int .i64 a0_4] 23 (0, 0)) ∧ Below w.heap.size w wr)
                case atStart =>
                  exact ⟨0, [], rfl, by omega, rfl, Kd.R_nil _ _ _ _ _, h, blk_drewN (blk_new w _) _, pw_below_drewN (below_alloc (Below.refl _ _) _) _⟩
                case round =>
                  obtain ⟨j, acc, hj, hj4, rfl, hR, HA, hb0, hB⟩ := hrel
                  rcases (show j = 0 ∨ j = 1 ∨ j = 2 ∨ j = 3 ∨ j = 4 by omega) with rfl | rfl | rfl | rfl | rfl
                  · have HAx : (le_Put.f k a0_1 8).bind (fun q => if acc.length + q.1.length < 140737488355328 then rela_Write.go k [((wrap64 a0_2), 4), ((a0_3 + 1), 4), (a0_4, 8)] (acc ++ q.1) else none) = some (r1, r2) := HA
                    obtain ⟨⟨q1, q2⟩, HP0, HQ0⟩ := Option.bind_eq_some_iff.mp HAx
                    have HP := Aside0.mk HP0
                    have HQ1 : (if acc.length + q1.length < 140737488355328 then rela_Write.go k [((wrap64 a0_2), 4), ((a0_3 + 1), 4), (a0_4, 8)] (acc ++ q1) else none) = some (r1, r2) := HQ0
                    clear HAx HP0 HQ0 HA
                    by_cases hl : acc.length + q1.length < 140737488355328
                    · rw [if_pos hl] at HQ1
                      have HQ := Aside0.mk HQ1
                      have HLL := Aside0.mk hl
                      have HR := Aside0.mk hR
                      have HB0 := Aside0.mk hb0
                      have HBB := Aside0.mk hB
                      clear HQ1 hl hR hb0 hB
                      have hix : ∀ W, (Instr.index 47 (.agg #[.int .i64 a0_1, .int .i64 8, .int .i64 (wrap64 a0_2), .int .i64 4, .int .i64 (a0_3 + 1), .int .i64 4, .int .i64 a0_4, .int .i64 8]) (.int .i64 0)).run Try.prog W = .ok (.agg #[.int .i64 a0_1, .int .i64 8]) W := fun _ => by kernel_rfl
                      go_wp2_with (first | (go_at_call 14; (with_reducible refine (le_Put.calls k a0_1 8 q1 q2 _ HP.out).mono ?_); rintro e w1 ⟨v5, rfl, hR5, hb5⟩; have hE := Kd.R_elder' (Kd.R_alloc HR.out (.cells #[.int .i64 a0_1, .int .i64 8] 46)) (Kd.R_base hR5) hb5; have hV := Kd.R_lower (Kd.R_new' hR5 (Kd.R_lt (Kd.R_alloc HR.out (.cells #[.int .i64 a0_1, .int .i64 8] 46)))) (below_size (below_alloc HBB.out (.cells #[.int .i64 a0_1, .int .i64 8] 46))); have gb0 := blk_below (blk_alloc HB0.out (.cells #[.int .i64 a0_1, .int .i64 8] 46)) hb5; have gB := below_step (below_alloc HBB.out (.cells #[.int .i64 a0_1, .int .i64 8] 46)) hb5; clear HR HB0 HBB hR5 hb5; obtain ⟨Ao, co, eo⟩ := Kd.R_slice hV; subst eo; have HR := Aside0.mk hE; have HV := Aside0.mk hV; have HB0 := Aside0.mk gb0; have HBB := Aside0.mk gB; clear hE hV gb0 gB) | ((with_reducible refine gate_builtin (b := .append) (xs := #[.tmp 75, .tmp 76]) rfl ?_); at_builtin; refine Kd.R_append_rows (Kd.int .u8) (w0 := w) w.heap.size rfl (.tmp 75) (.tmp 76) 25 5 (.int .u8 0) 1 rfl Try.underlying25 info5 rfl (by decide) (by omega) u6 acc q1 _ _ _ (fun k_ => some k_ ≠ (.slice Ao q1.length co : Value).ownBlock) (fun _ => False) rfl rfl ?aO ?aR (fun _ _ h => h) (fun _ h => h.elim) ?aF ?aB ?aS ?aL ?_; (case aR => exact (Kd.R_reads' HV.out).2.2); (case aB => exact HBB.out); (case aF => exact (fun k_ hk => Kd.fresh' (Kd.R_lt HV.out) k_ hk)); (case aO => exact (Kd.R_mono HR.out (fun _ hk => hk.2))); (case aS => exact below_size HBB.out); (case aL => have := HLL.out; omega); intro v1 w2 ho hb hg hat; have n0_ := Aside0.mk (blk_grown HB0.out hg (Kd.R_ne HR.out HB0.out (by decide))); have n2_ := Aside0.mk hb; have n3_ := Aside0.mk ho; clear HB0 HBB HR HV ho hb hg hat; have HB0 := n0_; have HBB := n2_; have HR := n3_; clear n0_ n2_ n3_))
                      cases gk with
                      | zero => exact absurd hj (by omega)
                      | succ k3 =>
                        go_roundg k3
                        case measure => omega
                        case rel => exact ⟨1, acc ++ q1, by omega, by omega, rfl, Kd.R_mono HR.out (fun _ _ => trivial), HQ.out, HB0.out, HBB.out⟩
                    · rw [if_neg hl] at HQ1
                      exact absurd HQ1 (by simp)
                  · have HAx : (le_Put.f k (wrap64 a0_2) 4).bind (fun q => if acc.length + q.1.length < 140737488355328 then rela_Write.go k [((a0_3 + 1), 4), (a0_4, 8)] (acc ++ q.1) else none) = some (r1, r2) := HA
                    obtain ⟨⟨q1, q2⟩, HP0, HQ0⟩ := Option.bind_eq_some_iff.mp HAx
                    have HP := Aside0.mk HP0
                    have HQ1 : (if acc.length + q1.length < 140737488355328 then rela_Write.go k [((a0_3 + 1), 4), (a0_4, 8)] (acc ++ q1) else none) = some (r1, r2) := HQ0
                    clear HAx HP0 HQ0 HA
                    by_cases hl : acc.length + q1.length < 140737488355328
                    · rw [if_pos hl] at HQ1
                      have HQ := Aside0.mk HQ1
                      have HLL := Aside0.mk hl
                      have HR := Aside0.mk hR
                      have HB0 := Aside0.mk hb0
                      have HBB := Aside0.mk hB
                      clear HQ1 hl hR hb0 hB
                      have hix : ∀ W, (Instr.index 47 (.agg #[.int .i64 a0_1, .int .i64 8, .int .i64 (wrap64 a0_2), .int .i64 4, .int .i64 (a0_3 + 1), .int .i64 4, .int .i64 a0_4, .int .i64 8]) (.int .i64 1)).run Try.prog W = .ok (.agg #[.int .i64 (wrap64 a0_2), .int .i64 4]) W := fun _ => by kernel_rfl
                      go_wp2_with (first | (go_at_call 14; (with_reducible refine (le_Put.calls k (wrap64 a0_2) 4 q1 q2 _ HP.out).mono ?_); rintro e w1 ⟨v5, rfl, hR5, hb5⟩; have hE := Kd.R_elder' (Kd.R_alloc HR.out (.cells #[.int .i64 (wrap64 a0_2), .int .i64 4] 46)) (Kd.R_base hR5) hb5; have hV := Kd.R_lower (Kd.R_new' hR5 (Kd.R_lt (Kd.R_alloc HR.out (.cells #[.int .i64 (wrap64 a0_2), .int .i64 4] 46)))) (below_size (below_alloc HBB.out (.cells #[.int .i64 (wrap64 a0_2), .int .i64 4] 46))); have gb0 := blk_below (blk_alloc HB0.out (.cells #[.int .i64 (wrap64 a0_2), .int .i64 4] 46)) hb5; have gB := below_step (below_alloc HBB.out (.cells #[.int .i64 (wrap64 a0_2), .int .i64 4] 46)) hb5; clear HR HB0 HBB hR5 hb5; obtain ⟨Ao, co, eo⟩ := Kd.R_slice hV; subst eo; have HR := Aside0.mk hE; have HV := Aside0.mk hV; have HB0 := Aside0.mk gb0; have HBB := Aside0.mk gB; clear hE hV gb0 gB) | ((with_reducible refine gate_builtin (b := .append) (xs := #[.tmp 75, .tmp 76]) rfl ?_); at_builtin; refine Kd.R_append_rows (Kd.int .u8) (w0 := w) w.heap.size rfl (.tmp 75) (.tmp 76) 25 5 (.int .u8 0) 1 rfl Try.underlying25 info5 rfl (by decide) (by omega) u6 acc q1 _ _ _ (fun k_ => some k_ ≠ (.slice Ao q1.length co : Value).ownBlock) (fun _ => False) rfl rfl ?aO ?aR (fun _ _ h => h) (fun _ h => h.elim) ?aF ?aB ?aS ?aL ?_; (case aR => exact (Kd.R_reads' HV.out).2.2); (case aB => exact HBB.out); (case aF => exact (fun k_ hk => Kd.fresh' (Kd.R_lt HV.out) k_ hk)); (case aO => exact (Kd.R_mono HR.out (fun _ hk => hk.2))); (case aS => exact below_size HBB.out); (case aL => have := HLL.out; omega); intro v1 w2 ho hb hg hat; have n0_ := Aside0.mk (blk_grown HB0.out hg (Kd.R_ne HR.out HB0.out (by decide))); have n2_ := Aside0.mk hb; have n3_ := Aside0.mk ho; clear HB0 HBB HR HV ho hb hg hat; have HB0 := n0_; have HBB := n2_; have HR := n3_; clear n0_ n2_ n3_))
                      cases gk with
                      | zero => exact absurd hj (by omega)
                      | succ k3 =>
                        go_roundg k3
                        case measure => omega
                        case rel => exact ⟨2, acc ++ q1, by omega, by omega, rfl, Kd.R_mono HR.out (fun _ _ => trivial), HQ.out, HB0.out, HBB.out⟩
                    · rw [if_neg hl] at HQ1
                      exact absurd HQ1 (by simp)
                  · have HAx : (le_Put.f k (a0_3 + 1) 4).bind (fun q => if acc.length + q.1.length < 140737488355328 then rela_Write.go k [(a0_4, 8)] (acc ++ q.1) else none) = some (r1, r2) := HA
                    obtain ⟨⟨q1, q2⟩, HP0, HQ0⟩ := Option.bind_eq_some_iff.mp HAx
                    have HP := Aside0.mk HP0
                    have HQ1 : (if acc.length + q1.length < 140737488355328 then rela_Write.go k [(a0_4, 8)] (acc ++ q1) else none) = some (r1, r2) := HQ0
                    clear HAx HP0 HQ0 HA
                    by_cases hl : acc.length + q1.length < 140737488355328
                    · rw [if_pos hl] at HQ1
                      have HQ := Aside0.mk HQ1
                      have HLL := Aside0.mk hl
                      have HR := Aside0.mk hR
                      have HB0 := Aside0.mk hb0
                      have HBB := Aside0.mk hB
                      clear HQ1 hl hR hb0 hB
                      have hix : ∀ W, (Instr.index 47 (.agg #[.int .i64 a0_1, .int .i64 8, .int .i64 (wrap64 a0_2), .int .i64 4, .int .i64 (a0_3 + 1), .int .i64 4, .int .i64 a0_4, .int .i64 8]) (.int .i64 2)).run Try.prog W = .ok (.agg #[.int .i64 (a0_3 + 1), .int .i64 4]) W := fun _ => by kernel_rfl
                      go_wp2_with (first | (go_at_call 14; (with_reducible refine (le_Put.calls k (a0_3 + 1) 4 q1 q2 _ HP.out).mono ?_); rintro e w1 ⟨v5, rfl, hR5, hb5⟩; have hE := Kd.R_elder' (Kd.R_alloc HR.out (.cells #[.int .i64 (a0_3 + 1), .int .i64 4] 46)) (Kd.R_base hR5) hb5; have hV := Kd.R_lower (Kd.R_new' hR5 (Kd.R_lt (Kd.R_alloc HR.out (.cells #[.int .i64 (a0_3 + 1), .int .i64 4] 46)))) (below_size (below_alloc HBB.out (.cells #[.int .i64 (a0_3 + 1), .int .i64 4] 46))); have gb0 := blk_below (blk_alloc HB0.out (.cells #[.int .i64 (a0_3 + 1), .int .i64 4] 46)) hb5; have gB := below_step (below_alloc HBB.out (.cells #[.int .i64 (a0_3 + 1), .int .i64 4] 46)) hb5; clear HR HB0 HBB hR5 hb5; obtain ⟨Ao, co, eo⟩ := Kd.R_slice hV; subst eo; have HR := Aside0.mk hE; have HV := Aside0.mk hV; have HB0 := Aside0.mk gb0; have HBB := Aside0.mk gB; clear hE hV gb0 gB) | ((with_reducible refine gate_builtin (b := .append) (xs := #[.tmp 75, .tmp 76]) rfl ?_); at_builtin; refine Kd.R_append_rows (Kd.int .u8) (w0 := w) w.heap.size rfl (.tmp 75) (.tmp 76) 25 5 (.int .u8 0) 1 rfl Try.underlying25 info5 rfl (by decide) (by omega) u6 acc q1 _ _ _ (fun k_ => some k_ ≠ (.slice Ao q1.length co : Value).ownBlock) (fun _ => False) rfl rfl ?aO ?aR (fun _ _ h => h) (fun _ h => h.elim) ?aF ?aB ?aS ?aL ?_; (case aR => exact (Kd.R_reads' HV.out).2.2); (case aB => exact HBB.out); (case aF => exact (fun k_ hk => Kd.fresh' (Kd.R_lt HV.out) k_ hk)); (case aO => exact (Kd.R_mono HR.out (fun _ hk => hk.2))); (case aS => exact below_size HBB.out); (case aL => have := HLL.out; omega); intro v1 w2 ho hb hg hat; have n0_ := Aside0.mk (blk_grown HB0.out hg (Kd.R_ne HR.out HB0.out (by decide))); have n2_ := Aside0.mk hb; have n3_ := Aside0.mk ho; clear HB0 HBB HR HV ho hb hg hat; have HB0 := n0_; have HBB := n2_; have HR := n3_; clear n0_ n2_ n3_))
                      cases gk with
                      | zero => exact absurd hj (by omega)
                      | succ k3 =>
                        go_roundg k3
                        case measure => omega
                        case rel => exact ⟨3, acc ++ q1, by omega, by omega, rfl, Kd.R_mono HR.out (fun _ _ => trivial), HQ.out, HB0.out, HBB.out⟩
                    · rw [if_neg hl] at HQ1
                      exact absurd HQ1 (by simp)
                  · have HAx : (le_Put.f k a0_4 8).bind (fun q => if acc.length + q.1.length < 140737488355328 then rela_Write.go k [] (acc ++ q.1) else none) = some (r1, r2) := HA
                    obtain ⟨⟨q1, q2⟩, HP0, HQ0⟩ := Option.bind_eq_some_iff.mp HAx
                    have HP := Aside0.mk HP0
                    have HQ1 : (if acc.length + q1.length < 140737488355328 then rela_Write.go k [] (acc ++ q1) else none) = some (r1, r2) := HQ0
                    clear HAx HP0 HQ0 HA
                    by_cases hl : acc.length + q1.length < 140737488355328
                    · rw [if_pos hl] at HQ1
                      have HQ := Aside0.mk HQ1
                      have HLL := Aside0.mk hl
                      have HR := Aside0.mk hR
                      have HB0 := Aside0.mk hb0
                      have HBB := Aside0.mk hB
                      clear HQ1 hl hR hb0 hB
                      have hix : ∀ W, (Instr.index 47 (.agg #[.int .i64 a0_1, .int .i64 8, .int .i64 (wrap64 a0_2), .int .i64 4, .int .i64 (a0_3 + 1), .int .i64 4, .int .i64 a0_4, .int .i64 8]) (.int .i64 3)).run Try.prog W = .ok (.agg #[.int .i64 a0_4, .int .i64 8]) W := fun _ => by kernel_rfl
                      go_wp2_with (first | (go_at_call 14; (with_reducible refine (le_Put.calls k a0_4 8 q1 q2 _ HP.out).mono ?_); rintro e w1 ⟨v5, rfl, hR5, hb5⟩; have hE := Kd.R_elder' (Kd.R_alloc HR.out (.cells #[.int .i64 a0_4, .int .i64 8] 46)) (Kd.R_base hR5) hb5; have hV := Kd.R_lower (Kd.R_new' hR5 (Kd.R_lt (Kd.R_alloc HR.out (.cells #[.int .i64 a0_4, .int .i64 8] 46)))) (below_size (below_alloc HBB.out (.cells #[.int .i64 a0_4, .int .i64 8] 46))); have gb0 := blk_below (blk_alloc HB0.out (.cells #[.int .i64 a0_4, .int .i64 8] 46)) hb5; have gB := below_step (below_alloc HBB.out (.cells #[.int .i64 a0_4, .int .i64 8] 46)) hb5; clear HR HB0 HBB hR5 hb5; obtain ⟨Ao, co, eo⟩ := Kd.R_slice hV; subst eo; have HR := Aside0.mk hE; have HV := Aside0.mk hV; have HB0 := Aside0.mk gb0; have HBB := Aside0.mk gB; clear hE hV gb0 gB) | ((with_reducible refine gate_builtin (b := .append) (xs := #[.tmp 75, .tmp 76]) rfl ?_); at_builtin; refine Kd.R_append_rows (Kd.int .u8) (w0 := w) w.heap.size rfl (.tmp 75) (.tmp 76) 25 5 (.int .u8 0) 1 rfl Try.underlying25 info5 rfl (by decide) (by omega) u6 acc q1 _ _ _ (fun k_ => some k_ ≠ (.slice Ao q1.length co : Value).ownBlock) (fun _ => False) rfl rfl ?aO ?aR (fun _ _ h => h) (fun _ h => h.elim) ?aF ?aB ?aS ?aL ?_; (case aR => exact (Kd.R_reads' HV.out).2.2); (case aB => exact HBB.out); (case aF => exact (fun k_ hk => Kd.fresh' (Kd.R_lt HV.out) k_ hk)); (case aO => exact (Kd.R_mono HR.out (fun _ hk => hk.2))); (case aS => exact below_size HBB.out); (case aL => have := HLL.out; omega); intro v1 w2 ho hb hg hat; have n0_ := Aside0.mk (blk_grown HB0.out hg (Kd.R_ne HR.out HB0.out (by decide))); have n2_ := Aside0.mk hb; have n3_ := Aside0.mk ho; clear HB0 HBB HR HV ho hb hg hat; have HB0 := n0_; have HBB := n2_; have HR := n3_; clear n0_ n2_ n3_))
                      cases gk with
                      | zero => exact absurd hj (by omega)
                      | succ k3 =>
                        go_roundg k3
                        case measure => omega
                        case rel => exact ⟨4, acc ++ q1, by omega, by omega, rfl, Kd.R_mono HR.out (fun _ _ => trivial), HQ.out, HB0.out, HBB.out⟩
                    · rw [if_neg hl] at HQ1
                      exact absurd HQ1 (by simp)
                  · have HA' : some (acc, (0 : Int)) = some (r1, r2) := HA
                    simp only [Option.some.injEq, Prod.mk.injEq] at HA'
                    obtain ⟨rfl, rfl⟩ := HA'
                    clear HA
                    have HR := Aside0.mk hR
                    have HBB := Aside0.mk hB
                    clear hR hB
                    go_wp2
                    go_ret2
                    exact ⟨_, rfl, HR.out, HBB.out⟩
  · rw [if_neg cf] at h
    simp only [Option.some.injEq, Prod.mk.injEq] at h
    obtain ⟨rfl, rfl⟩ := h
    go_enter Try.func7, Try.ntmps7
    go_wp2_with (go_at_call 5; refine (rela_Field.calls k a0_2 f1 _ _ HF.out).mono ?_; rintro e w1 ⟨rfl, ⟨nd, rfl⟩⟩)
    go_ret2
    exact ⟨_, rfl, Kd.R_nil _ _ _ _ _, (by repeat (with_reducible first | exact Below.refl _ _ | apply pw_below_drewN | apply below_drew1 | apply below_alloc))⟩


/-! ### quoinref11_addend: function 24 -/
def quoinref11_addend.f (a0 : Int) : Option (Bool) := if a0 ≥ (-2147483648) then (some (decide (a0 < 4294967296))) else (some false)
set_option maxHeartbeats 8000000 in
set_option maxRecDepth 100000 in
theorem quoinref11_addend.calls (a0 : Int) (r : Bool) (w : World) (h : quoinref11_addend.f a0 = some r) :
  Calls Try.prog 24 #[.int .i64 a0] w fun e w' => e = .returned (.bool r) ∧ Drawn0 w w' := by
 have H : (if a0 ≥ (-2147483648) then (some (decide (a0 < 4294967296))) else (some false)) = some r := h
 clear h
 by_cases c2 : a0 ≥ (-2147483648)
 ·
  rw [if_pos c2] at H
  have c2b0 : decide ((-2147483648) ≤ a0) = true := decide_eq_true c2
  clear c2
  obtain rfl := Option.some.inj H
  go_enter Try.func24, Try.ntmps24
  go_wp2
  go_ret
  exact ⟨by first | rfl | (simp; done) | (simp [*]; done), by repeat (first | exact Drawn0.refl _ | apply Drawn0.step)⟩
 ·
  rw [if_neg c2] at H
  have c2b0 : decide ((-2147483648) ≤ a0) = false := decide_eq_false c2
  clear c2
  obtain rfl := Option.some.inj H
  go_enter Try.func24, Try.ntmps24
  go_wp2
  go_ret
  exact ⟨by first | rfl | (simp; done) | (simp [*]; done), by repeat (first | exact Drawn0.refl _ | apply Drawn0.step)⟩

end Go.Proofs.Ytdhkmaiidbomdaf.P
