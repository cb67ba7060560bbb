-- Written by pext.py, a program of this session, over the kit's print: a function's contract
import Derived.Test.YtajmhopefhbeoaaPx0
import Derived.Test.YtajmhopefhbeoaaPx1
namespace Go.Proofs.Ytajmhopefhbeoaa.P
open Go.RowKit Go.Proofs.YtajmhopefhbeoaaW.PrintWords Go.Proofs.YtajmhopefhbeoaaW.PrintLast Go.Proofs.YtajmhopefhbeoaaW.PrintMore
attribute [local go_sem] max2_int min2_int max_two min_two max_three min_three max_four min_four   -- for this text's walks alone
set_option linter.unusedVariables false
set_option linter.unusedSimpArgs false

/-! ### quoinlaw07_LeBounds: function 4 -/
def quoinlaw07_LeBounds.j0 : Nat → Int → Int → List Int → Int → Bool → List Int → Int → Int → Int → Bool → Option (Bool)
  | 0, _, _, _, _, _, _, _, _, _, _ => none
  | k + 1, x0, x1, x2, x3, x9, x10, x11, x12, x13, x46 => if x46 = true then (if x9 = true then (if x11 = 2 then (if x13 = 2 then (if (x10.length : Int) = 0 then (some (x12 == 0)) else (some false)) else (some false)) else (some false)) else (some false)) else (if x1 = 8 then (if x11 = 0 then (if (x10.length : Int) = x1 then (if x9 = true then (if x3 ≥ 0 then (if x13 = 0 then (if x3 ≤ (wrap64 ((x2.length : Int) - x1)) then (some true) else (some false)) else (if x3 ≤ (wrap64 ((x2.length : Int) - x1)) then (some false) else (if x13 = 8 then (some (x12 == 0)) else (some false)))) else (if x13 = 0 then (some false) else (if x13 = 8 then (some (x12 == 0)) else (some false)))) else (some false)) else (some false)) else (some false)) else (if x0 ≥ 0 then (if 0 ≤ (wrap64 (8 * x1)) then (if x11 = 0 then (if x0 < (shl .i64 1 (wrap64 (8 * x1))) then (if (x10.length : Int) = x1 then (if x9 = true then (if x3 ≥ 0 then (if x13 = 0 then (if x3 ≤ (wrap64 ((x2.length : Int) - x1)) then (some true) else (some false)) else (if x3 ≤ (wrap64 ((x2.length : Int) - x1)) then (some false) else (if x13 = 8 then (some (x12 == 0)) else (some false)))) else (if x13 = 0 then (some false) else (if x13 = 8 then (some (x12 == 0)) else (some false)))) else (some false)) else (some false)) else (some false)) else (if x0 < (shl .i64 1 (wrap64 (8 * x1))) then (some false) else (if (x10.length : Int) = 0 then (if x11 = 2 then (if x9 = true then (if x3 ≥ 0 then (if x13 = 0 then (if x3 ≤ (wrap64 ((x2.length : Int) - x1)) then (some true) else (some false)) else (if x3 ≤ (wrap64 ((x2.length : Int) - x1)) then (some false) else (if x13 = 8 then (some (x12 == 0)) else (some false)))) else (if x13 = 0 then (some false) else (if x13 = 8 then (some (x12 == 0)) else (some false)))) else (some false)) else (some false)) else (some false)))) else (none)) else (if x11 = 0 then (some false) else (if (x10.length : Int) = 0 then (if x11 = 2 then (if x9 = true then (if x3 ≥ 0 then (if x13 = 0 then (if x3 ≤ (wrap64 ((x2.length : Int) - x1)) then (some true) else (some false)) else (if x3 ≤ (wrap64 ((x2.length : Int) - x1)) then (some false) else (if x13 = 8 then (some (x12 == 0)) else (some false)))) else (if x13 = 0 then (some false) else (if x13 = 8 then (some (x12 == 0)) else (some false)))) else (some false)) else (some false)) else (some false)))))
def quoinlaw07_LeBounds.f (k : Nat) (a0 : Int) (a1 : Int) (l2 : List Int) (a3 : Int) : Option (Bool) := (quoinlaw07_alive.f k).bind fun t145 => (if (l2.length : Int) > 10000 then (some t145) else ((le_Put.f k a0 a1).bind fun bt146 => ((le_Get.f k l2 a3 a1).bind fun bt150 => (if a1 = 1 then (quoinlaw07_LeBounds.j0 k a0 a1 l2 a3 t145 bt146.1 bt146.2 bt150.1 bt150.2 false) else (if a1 = 2 then (quoinlaw07_LeBounds.j0 k a0 a1 l2 a3 t145 bt146.1 bt146.2 bt150.1 bt150.2 false) else (if a1 = 4 then (quoinlaw07_LeBounds.j0 k a0 a1 l2 a3 t145 bt146.1 bt146.2 bt150.1 bt150.2 false) else (quoinlaw07_LeBounds.j0 k a0 a1 l2 a3 t145 bt146.1 bt146.2 bt150.1 bt150.2 (a1 != 8))))))))
theorem quoinlaw07_LeBounds.mono_l : ∀ k, (∀ y0 y1 y2 y3 y4 y5 y6 y7 y8 y9, LeO (quoinlaw07_LeBounds.j0 k y0 y1 y2 y3 y4 y5 y6 y7 y8 y9) (quoinlaw07_LeBounds.j0 (k + 1) y0 y1 y2 y3 y4 y5 y6 y7 y8 y9))
  | 0 => fun _ _ _ _ _ _ _ _ _ _ r h => by simp [quoinlaw07_LeBounds.j0] at h
  | k + 1 => by
    have ih0 := quoinlaw07_LeBounds.mono_l k
    · intro y0 y1 y2 y3 y4 y5 y6 y7 y8 y9
      unfold quoinlaw07_LeBounds.j0
      repeat' first
      | (with_reducible exact ih0 _ _ _ _ _ _ _ _ _ _)
      | (with_reducible exact le_Get.mono _ _ _ _)
      | (with_reducible exact le_Put.mono _ _ _)
      | (with_reducible exact quoinlaw07_alive.mono _)
      | (with_reducible exact LeO.refl _)
      | (with_reducible exact LeO.none _)
      | (with_reducible refine LeO.ite ?_ ?_)
      | (with_reducible refine LeO.bind ?_ (fun _ => ?_))
      | exact ih0 _ _ _ _ _ _ _ _ _ _
      | exact le_Get.mono _ _ _ _
      | exact le_Put.mono _ _ _
      | exact quoinlaw07_alive.mono _
      | exact LeO.none _
      | refine LeO.ite ?_ ?_
      | refine LeO.bind ?_ (fun _ => ?_)
theorem quoinlaw07_LeBounds.mono : ∀ a0 a1 a2 a3 k, LeO (quoinlaw07_LeBounds.f k a0 a1 a2 a3) (quoinlaw07_LeBounds.f (k + 1) a0 a1 a2 a3) := by
  intro a0 a1 a2 a3 k
  have ih0 := quoinlaw07_LeBounds.mono_l k
  unfold quoinlaw07_LeBounds.f
  repeat' first
      | (with_reducible exact ih0 _ _ _ _ _ _ _ _ _ _)
      | (with_reducible exact le_Get.mono _ _ _ _)
      | (with_reducible exact le_Put.mono _ _ _)
      | (with_reducible exact quoinlaw07_alive.mono _)
      | (with_reducible exact LeO.refl _)
      | (with_reducible exact LeO.none _)
      | (with_reducible refine LeO.ite ?_ ?_)
      | (with_reducible refine LeO.bind ?_ (fun _ => ?_))
      | exact ih0 _ _ _ _ _ _ _ _ _ _
      | exact le_Get.mono _ _ _ _
      | exact le_Put.mono _ _ _
      | exact quoinlaw07_alive.mono _
      | exact LeO.none _
      | refine LeO.ite ?_ ?_
      | refine LeO.bind ?_ (fun _ => ?_)
set_option maxHeartbeats 8000000 in
set_option maxRecDepth 100000 in
theorem quoinlaw07_LeBounds.calls (k : Nat) (a0 : Int) (a1 : Int) (A2 : Option Addr) (c2 : Nat) (l2 : List Int) (a3 : Int) (r : Bool) (w : World) (hr2 : Kd.C (Kd.int .u8) w A2 l2.length l2) (hc2 : l2.length ≤ c2) (h : quoinlaw07_LeBounds.f k a0 a1 l2 a3 = some r) :
    Calls Try.prog 4 #[.int .i64 a0, .int .i64 a1, .slice A2 l2.length c2, .int .i64 a3] w fun e w' => e = .returned (.bool r) ∧ Below w.heap.size w w' := by
  have HR2 := Aside0.mk hr2
  have HC2 := Aside0.mk hc2
  clear hr2 hc2
  have HB := Aside0.mk (Below.refl w.heap.size w)
  have H : ((quoinlaw07_alive.f k).bind fun t145 => (if (l2.length : Int) > 10000 then (some t145) else ((le_Put.f k a0 a1).bind fun bt146 => ((le_Get.f k l2 a3 a1).bind fun bt150 => (if a1 = 1 then (quoinlaw07_LeBounds.j0 k a0 a1 l2 a3 t145 bt146.1 bt146.2 bt150.1 bt150.2 false) else (if a1 = 2 then (quoinlaw07_LeBounds.j0 k a0 a1 l2 a3 t145 bt146.1 bt146.2 bt150.1 bt150.2 false) else (if a1 = 4 then (quoinlaw07_LeBounds.j0 k a0 a1 l2 a3 t145 bt146.1 bt146.2 bt150.1 bt150.2 false) else (quoinlaw07_LeBounds.j0 k a0 a1 l2 a3 t145 bt146.1 bt146.2 bt150.1 bt150.2 (a1 != 8))))))))) = some r := h
  clear h
  replace H := Option.bind_eq_some_iff.mp H
  obtain ⟨t145, A50, H⟩ := H
  replace H : (if (l2.length : Int) > 10000 then (some t145) else ((le_Put.f k a0 a1).bind fun bt146 => ((le_Get.f k l2 a3 a1).bind fun bt150 => (if a1 = 1 then (quoinlaw07_LeBounds.j0 k a0 a1 l2 a3 t145 bt146.1 bt146.2 bt150.1 bt150.2 false) else (if a1 = 2 then (quoinlaw07_LeBounds.j0 k a0 a1 l2 a3 t145 bt146.1 bt146.2 bt150.1 bt150.2 false) else (if a1 = 4 then (quoinlaw07_LeBounds.j0 k a0 a1 l2 a3 t145 bt146.1 bt146.2 bt150.1 bt150.2 false) else (quoinlaw07_LeBounds.j0 k a0 a1 l2 a3 t145 bt146.1 bt146.2 bt150.1 bt150.2 (a1 != 8)))))))) = some r := H
  have A5 := Aside0.mk A50
  clear A50
  by_cases c6 : (l2.length : Int) > 10000
  · rw [if_pos c6] at H
    have c6b0 : decide (10000 < (l2.length : Int)) = true := decide_eq_true c6
    have c6b1 : decide (10000 < l2.length) = true := decide_eq_true (by omega)
    clear c6
    obtain rfl := Option.some.inj H
    go_enter Try.func4, Try.ntmps4
    go_wp2_with (first | ((with_reducible refine gate_callee (f := 9) rfl ?_); refine goesL_ (some 15) rfl rfl Try.func9 (by kernel_rfl) rfl #[] rfl (by (try simp only [List.map_toArray, List.map_cons, List.map_nil]); first | done | rfl | (simp only [List.length_drop, List.length_take]; rfl)) ?_; (with_reducible refine (quoinlaw07_alive.calls k  t145 _ A5.out).mono ?_); rintro e w7 ⟨rfl, hb⟩; refine ⟨_, rfl, ?_⟩; have n0_ := Aside0.mk (below_step (by repeat (first | (with_reducible first | exact HB.out | apply below_alloc | apply pw_below_drewN | apply below_drew1) | exact HB.out)) hb); clear HB; have HB := n0_; clear n0_; (try clear hb); (try clear hb2); (try clear hk); (try clear hi)))
    go_ret
    exact ⟨by first | rfl | (simp [errW_none, errW_some] <;> rfl) | (simp [*, errW_none, errW_some] <;> rfl), by repeat (first | (with_reducible first | exact HB.out | apply below_alloc | apply pw_below_drewN | apply below_drew1) | exact HB.out)⟩
  · rw [if_neg c6] at H
    have c6b0 : decide (10000 < (l2.length : Int)) = false := decide_eq_false c6
    have c6b1 : decide (10000 < l2.length) = false := decide_eq_false (by omega)
    clear c6
    replace H := Option.bind_eq_some_iff.mp H
    obtain ⟨⟨t146, t147⟩, A80, H⟩ := H
    replace H : ((le_Get.f k l2 a3 a1).bind fun bt150 => (if a1 = 1 then (quoinlaw07_LeBounds.j0 k a0 a1 l2 a3 t145 t146 t147 bt150.1 bt150.2 false) else (if a1 = 2 then (quoinlaw07_LeBounds.j0 k a0 a1 l2 a3 t145 t146 t147 bt150.1 bt150.2 false) else (if a1 = 4 then (quoinlaw07_LeBounds.j0 k a0 a1 l2 a3 t145 t146 t147 bt150.1 bt150.2 false) else (quoinlaw07_LeBounds.j0 k a0 a1 l2 a3 t145 t146 t147 bt150.1 bt150.2 (a1 != 8)))))) = some r := H
    have A8 := Aside0.mk A80
    clear A80
    replace H := Option.bind_eq_some_iff.mp H
    obtain ⟨⟨t150, t151⟩, A90, H⟩ := H
    replace H : (if a1 = 1 then (quoinlaw07_LeBounds.j0 k a0 a1 l2 a3 t145 t146 t147 t150 t151 false) else (if a1 = 2 then (quoinlaw07_LeBounds.j0 k a0 a1 l2 a3 t145 t146 t147 t150 t151 false) else (if a1 = 4 then (quoinlaw07_LeBounds.j0 k a0 a1 l2 a3 t145 t146 t147 t150 t151 false) else (quoinlaw07_LeBounds.j0 k a0 a1 l2 a3 t145 t146 t147 t150 t151 (a1 != 8))))) = some r := H
    have A9 := Aside0.mk A90
    clear A90
    have HC10 := Aside0.mk H
    clear H
    go_enter Try.func4, Try.ntmps4
    go_upto_region 6 with (first | ((with_reducible refine gate_callee (f := 9) rfl ?_); refine goesL_ (some 15) rfl rfl Try.func9 (by kernel_rfl) rfl #[] rfl (by (try simp only [List.map_toArray, List.map_cons, List.map_nil]); first | done | rfl | (simp only [List.length_drop, List.length_take]; rfl)) ?_; (with_reducible refine (quoinlaw07_alive.calls k  t145 _ A5.out).mono ?_); rintro e w11 ⟨rfl, hb⟩; refine ⟨_, rfl, ?_⟩; have n0_ := Aside0.mk (below_step (by repeat (first | (with_reducible first | exact HB.out | apply below_alloc | apply pw_below_drewN | apply below_drew1) | exact HB.out)) hb); clear HB; have HB := n0_; clear n0_; (try clear hb); (try clear hb2); (try clear hk); (try clear hi)) | ((with_reducible refine gate_callee (f := 10) rfl ?_); refine goesL_ (some 23) rfl rfl Try.func10 (by kernel_rfl) rfl #[.int .i64 a0, .int .i64 a1] rfl (by (try simp only [List.map_toArray, List.map_cons, List.map_nil]); first | done | rfl | (simp only [List.length_drop, List.length_take]; rfl)) ?_; (with_reducible refine (le_Put.calls k a0 a1 t146 t147 _ A8.out).mono ?_); rintro e w12 ⟨v148, rfl, ho0, hb⟩; refine ⟨_, rfl, ?_⟩; have n0_ := Aside0.mk (Kd.R_lower ho0 (below_size (by repeat (first | (with_reducible first | exact HB.out | apply below_alloc | apply pw_below_drewN | apply below_drew1) | exact HB.out)))); have n1_ := Aside0.mk (below_step (by repeat (first | (with_reducible first | exact HB.out | apply below_alloc | apply pw_below_drewN | apply below_drew1) | exact HB.out)) hb); clear HB; have HO149 := n0_; have HB := n1_; clear n0_ n1_; (try clear hb); (try clear hb2); (try clear hk); (try clear hi); (try clear ho0)) | ((with_reducible refine gate_callee (f := 11) rfl ?_); refine goesL_ (some 30) rfl rfl Try.func11 (by kernel_rfl) rfl #[.slice A2 l2.length c2, .int .i64 a3, .int .i64 a1] rfl (by (try simp only [List.map_toArray, List.map_cons, List.map_nil]); first | done | rfl | (simp only [List.length_drop, List.length_take]; rfl)) ?_; (with_reducible refine (le_Get.calls k _ _ l2 a3 a1 t150 t151 _ ?side1 ?side2 A9.out).mono ?_); (case side1 => repeat (first | exact (Kd.C_below HR2.out HB.out) | (with_reducible refine Kd.C_alloc ?_ _) | (with_reducible refine Kd.C_drewN ?_ _) | (with_reducible refine Kd.C_drew ?_))); (case side2 => exact HC2.out); rintro e w' ⟨rfl, ⟨nd, rfl⟩⟩; refine ⟨_, rfl, ?_⟩))
    (try simp only [Act.put, List.setIfInBounds_toArray, List.set_cons_zero, List.set_cons_succ])
    go_cut [46] (fun v46 wc => ∃ (kq : Nat) (x46_9 : Bool), v46 = .bool x46_9 ∧ Aside0 (quoinlaw07_LeBounds.j0 kq a0 a1 l2 a3 t145 t146 t147 t150 t151 x46_9 = some r) ∧ Aside0 (kq ≤ k) ∧ Aside0 (Kd.R (Kd.int .u8) 5 wc w.heap.size (fun _ => True) v148 t146) ∧ Aside0 (Below w.heap.size w wc))
    case first =>
      have H := HC10.out
      clear HC10
      by_cases c13 : a1 = 1
      · rw [if_pos c13] at H
        have c13b0 : (a1 == 1) = true := beq_iff_eq.mpr c13
        have c13b1 : (a1 != 1) = false := bne_eq_false_iff_eq.mpr c13
        clear c13
        (first | rw [c13b0] | (simp only [i64_w, i32_w]; rw [c13b0]) | skip)
        have H' := Aside0.mk H
        clear H
        go_wp2
        go_meet
        case rel => exact ⟨_, (false), (by first | rfl | (simp; done) | (simp [*]; done)), H', ⟨by first | omega | exact Nat.le_refl _⟩, ⟨by (with_reducible repeat (first | apply Kd.R_alloc | apply Kd.R_drewN | apply Kd.R_drew)); exact HO149.out⟩, ⟨by repeat (first | (with_reducible first | exact HB.out | apply below_alloc | apply pw_below_drewN | apply below_drew1) | exact HB.out)⟩⟩
      · rw [if_neg c13] at H
        have c13b0 : (a1 == 1) = false := beq_eq_false_iff_ne.mpr c13
        have c13b1 : (a1 != 1) = true := bne_iff_ne.mpr c13
        (first | rw [c13b0] | (simp only [i64_w, i32_w]; rw [c13b0]) | skip)
        by_cases c14 : a1 = 2
        · rw [if_pos c14] at H
          have c14b0 : (a1 == 2) = true := beq_iff_eq.mpr c14
          have c14b1 : (a1 != 2) = false := bne_eq_false_iff_eq.mpr c14
          clear c14
          have H' := Aside0.mk H
          clear H
          go_wp2
          go_meet
          case rel => exact ⟨_, (false), (by first | rfl | (simp; done) | (simp [*]; done)), H', ⟨by first | omega | exact Nat.le_refl _⟩, ⟨by (with_reducible repeat (first | apply Kd.R_alloc | apply Kd.R_drewN | apply Kd.R_drew)); exact HO149.out⟩, ⟨by repeat (first | (with_reducible first | exact HB.out | apply below_alloc | apply pw_below_drewN | apply below_drew1) | exact HB.out)⟩⟩
        · rw [if_neg c14] at H
          have c14b0 : (a1 == 2) = false := beq_eq_false_iff_ne.mpr c14
          have c14b1 : (a1 != 2) = true := bne_iff_ne.mpr c14
          by_cases c15 : a1 = 4
          · rw [if_pos c15] at H
            have c15b0 : (a1 == 4) = true := beq_iff_eq.mpr c15
            have c15b1 : (a1 != 4) = false := bne_eq_false_iff_eq.mpr c15
            clear c15
            have H' := Aside0.mk H
            clear H
            go_wp2
            go_meet
            case rel => exact ⟨_, (false), (by first | rfl | (simp; done) | (simp [*]; done)), H', ⟨by first | omega | exact Nat.le_refl _⟩, ⟨by (with_reducible repeat (first | apply Kd.R_alloc | apply Kd.R_drewN | apply Kd.R_drew)); exact HO149.out⟩, ⟨by repeat (first | (with_reducible first | exact HB.out | apply below_alloc | apply pw_below_drewN | apply below_drew1) | exact HB.out)⟩⟩
          · rw [if_neg c15] at H
            have c15b0 : (a1 == 4) = false := beq_eq_false_iff_ne.mpr c15
            have c15b1 : (a1 != 4) = true := bne_iff_ne.mpr c15
            have H' := Aside0.mk H
            clear H
            go_wp2
            go_meet
            case rel => exact ⟨_, ((a1 != 8)), (by first | rfl | (simp; done) | (simp [*]; done)), H', ⟨by first | omega | exact Nat.le_refl _⟩, ⟨by (with_reducible repeat (first | apply Kd.R_alloc | apply Kd.R_drewN | apply Kd.R_drew)); exact HO149.out⟩, ⟨by repeat (first | (with_reducible first | exact HB.out | apply below_alloc | apply pw_below_drewN | apply below_drew1) | exact HB.out)⟩⟩
    case rest =>
      clear HC10
      try clear c1
      try clear c2
      try clear p2
      try clear c4
      try clear c6
      try clear c6b0
      try clear c6b1
      try clear c9
      try clear c10
      try clear c11
      try clear c13
      try clear c13b0
      try clear c13b1
      try clear c14
      try clear c14b0
      try clear c14b1
      try clear c15
      try clear c15b0
      try clear c15b1
      obtain ⟨kq, x46_9, rfl, HA, HJ9, HO_10, HB⟩ := hcut
      cases kq with
      | zero => exact absurd HA.out (by simp [quoinlaw07_LeBounds.j0])
      | succ kj9 =>
        have H := HA.out
        clear HA
        simp only [quoinlaw07_LeBounds.j0] at H
        by_cases c16 : x46_9 = true
        · subst c16
          have H1 : (if t145 = true then (if t147 = 2 then (if t151 = 2 then (if (t146.length : Int) = 0 then (some (t150 == 0)) else (some false)) else (some false)) else (some false)) else (some false)) = some r := by rw [if_pos rfl] at H; exact H
          clear H
          have H := H1
          clear H1
          by_cases c17 : t145 = true
          · subst c17
            have H1 : (if t147 = 2 then (if t151 = 2 then (if (t146.length : Int) = 0 then (some (t150 == 0)) else (some false)) else (some false)) else (some false)) = some r := by rw [if_pos rfl] at H; exact H
            clear H
            have H := H1
            clear H1
            by_cases c18 : t147 = 2
            · rw [if_pos c18] at H
              have c18b0 : (t147 == 2) = true := beq_iff_eq.mpr c18
              have c18b1 : (t147 != 2) = false := bne_eq_false_iff_eq.mpr c18
              clear c18
              by_cases c19 : t151 = 2
              · rw [if_pos c19] at H
                have c19b0 : (t151 == 2) = true := beq_iff_eq.mpr c19
                have c19b1 : (t151 != 2) = false := bne_eq_false_iff_eq.mpr c19
                clear c19
                by_cases c20 : (t146.length : Int) = 0
                · rw [if_pos c20] at H
                  have c20b0 : ((t146.length : Int) == 0) = true := beq_iff_eq.mpr c20
                  have c20b1 : ((t146.length : Int) != 0) = false := bne_eq_false_iff_eq.mpr c20
                  clear c20
                  obtain rfl := Option.some.inj H
                  obtain ⟨Ao21, co21, eo21⟩ := Kd.R_slice HO_10.out
                  subst eo21
                  go_wp2
                  go_ret
                  exact ⟨by first | rfl | (simp [errW_none, errW_some] <;> rfl) | (simp [*, errW_none, errW_some] <;> rfl), by repeat (first | (with_reducible first | exact HB.out | apply below_alloc | apply pw_below_drewN | apply below_drew1) | exact HB.out)⟩
                · rw [if_neg c20] at H
                  have c20b0 : ((t146.length : Int) == 0) = false := beq_eq_false_iff_ne.mpr c20
                  have c20b1 : ((t146.length : Int) != 0) = true := bne_iff_ne.mpr c20
                  have c20b2 : ¬ (t146 = []) := fun h_ => c20 (by rw [h_]; rfl)
                  obtain rfl := Option.some.inj H
                  obtain ⟨Ao22, co22, eo22⟩ := Kd.R_slice HO_10.out
                  subst eo22
                  go_wp2
                  go_ret
                  exact ⟨by first | rfl | (simp [errW_none, errW_some] <;> rfl) | (simp [*, errW_none, errW_some] <;> rfl), by repeat (first | (with_reducible first | exact HB.out | apply below_alloc | apply pw_below_drewN | apply below_drew1) | exact HB.out)⟩
              · rw [if_neg c19] at H
                have c19b0 : (t151 == 2) = false := beq_eq_false_iff_ne.mpr c19
                have c19b1 : (t151 != 2) = true := bne_iff_ne.mpr c19
                obtain rfl := Option.some.inj H
                go_wp2
                go_ret
                exact ⟨by first | rfl | (simp [errW_none, errW_some] <;> rfl) | (simp [*, errW_none, errW_some] <;> rfl), by repeat (first | (with_reducible first | exact HB.out | apply below_alloc | apply pw_below_drewN | apply below_drew1) | exact HB.out)⟩
            · rw [if_neg c18] at H
              have c18b0 : (t147 == 2) = false := beq_eq_false_iff_ne.mpr c18
              have c18b1 : (t147 != 2) = true := bne_iff_ne.mpr c18
              obtain rfl := Option.some.inj H
              go_wp2
              go_ret
              exact ⟨by first | rfl | (simp [errW_none, errW_some] <;> rfl) | (simp [*, errW_none, errW_some] <;> rfl), by repeat (first | (with_reducible first | exact HB.out | apply below_alloc | apply pw_below_drewN | apply below_drew1) | exact HB.out)⟩
          · replace c17 := Bool.eq_false_iff.mpr c17
            subst c17
            have H1 : (some false) = some r := by rw [if_neg (show ¬ (false = true) by decide)] at H; exact H
            clear H
            have H := H1
            clear H1
            obtain rfl := Option.some.inj H
            go_wp2
            go_ret
            exact ⟨by first | rfl | (simp [errW_none, errW_some] <;> rfl) | (simp [*, errW_none, errW_some] <;> rfl), by repeat (first | (with_reducible first | exact HB.out | apply below_alloc | apply pw_below_drewN | apply below_drew1) | exact HB.out)⟩
        · replace c16 := Bool.eq_false_iff.mpr c16
          subst c16
          have H1 : (if a1 = 8 then (if t147 = 0 then (if (t146.length : Int) = a1 then (if t145 = true then (if a3 ≥ 0 then (if t151 = 0 then (if a3 ≤ (wrap64 ((l2.length : Int) - a1)) then (some true) else (some false)) else (if a3 ≤ (wrap64 ((l2.length : Int) - a1)) then (some false) else (if t151 = 8 then (some (t150 == 0)) else (some false)))) else (if t151 = 0 then (some false) else (if t151 = 8 then (some (t150 == 0)) else (some false)))) else (some false)) else (some false)) else (some false)) else (if a0 ≥ 0 then (if 0 ≤ (wrap64 (8 * a1)) then (if t147 = 0 then (if a0 < (shl .i64 1 (wrap64 (8 * a1))) then (if (t146.length : Int) = a1 then (if t145 = true then (if a3 ≥ 0 then (if t151 = 0 then (if a3 ≤ (wrap64 ((l2.length : Int) - a1)) then (some true) else (some false)) else (if a3 ≤ (wrap64 ((l2.length : Int) - a1)) then (some false) else (if t151 = 8 then (some (t150 == 0)) else (some false)))) else (if t151 = 0 then (some false) else (if t151 = 8 then (some (t150 == 0)) else (some false)))) else (some false)) else (some false)) else (some false)) else (if a0 < (shl .i64 1 (wrap64 (8 * a1))) then (some false) else (if (t146.length : Int) = 0 then (if t147 = 2 then (if t145 = true then (if a3 ≥ 0 then (if t151 = 0 then (if a3 ≤ (wrap64 ((l2.length : Int) - a1)) then (some true) else (some false)) else (if a3 ≤ (wrap64 ((l2.length : Int) - a1)) then (some false) else (if t151 = 8 then (some (t150 == 0)) else (some false)))) else (if t151 = 0 then (some false) else (if t151 = 8 then (some (t150 == 0)) else (some false)))) else (some false)) else (some false)) else (some false)))) else (none)) else (if t147 = 0 then (some false) else (if (t146.length : Int) = 0 then (if t147 = 2 then (if t145 = true then (if a3 ≥ 0 then (if t151 = 0 then (if a3 ≤ (wrap64 ((l2.length : Int) - a1)) then (some true) else (some false)) else (if a3 ≤ (wrap64 ((l2.length : Int) - a1)) then (some false) else (if t151 = 8 then (some (t150 == 0)) else (some false)))) else (if t151 = 0 then (some false) else (if t151 = 8 then (some (t150 == 0)) else (some false)))) else (some false)) else (some false)) else (some false))))) = some r := by rw [if_neg (show ¬ (false = true) by decide)] at H; exact H
          clear H
          have H := H1
          clear H1
          by_cases c23 : a1 = 8
          · rw [if_pos c23] at H
            have c23b0 : (a1 == 8) = true := beq_iff_eq.mpr c23
            have c23b1 : (a1 != 8) = false := bne_eq_false_iff_eq.mpr c23
            clear c23
            by_cases c24 : t147 = 0
            · rw [if_pos c24] at H
              have c24b0 : (t147 == 0) = true := beq_iff_eq.mpr c24
              have c24b1 : (t147 != 0) = false := bne_eq_false_iff_eq.mpr c24
              clear c24
              by_cases c25 : (t146.length : Int) = a1
              · rw [if_pos c25] at H
                have c25b0 : ((t146.length : Int) == a1) = true := beq_iff_eq.mpr c25
                have c25b1 : ((t146.length : Int) != a1) = false := bne_eq_false_iff_eq.mpr c25
                clear c25
                by_cases c26 : t145 = true
                · subst c26
                  have H1 : (if a3 ≥ 0 then (if t151 = 0 then (if a3 ≤ (wrap64 ((l2.length : Int) - a1)) then (some true) else (some false)) else (if a3 ≤ (wrap64 ((l2.length : Int) - a1)) then (some false) else (if t151 = 8 then (some (t150 == 0)) else (some false)))) else (if t151 = 0 then (some false) else (if t151 = 8 then (some (t150 == 0)) else (some false)))) = some r := by rw [if_pos rfl] at H; exact H
                  clear H
                  have H := H1
                  clear H1
                  by_cases c27 : a3 ≥ 0
                  · rw [if_pos c27] at H
                    have c27b0 : decide (0 ≤ a3) = true := decide_eq_true c27
                    clear c27
                    by_cases c28 : t151 = 0
                    · rw [if_pos c28] at H
                      have c28b0 : (t151 == 0) = true := beq_iff_eq.mpr c28
                      have c28b1 : (t151 != 0) = false := bne_eq_false_iff_eq.mpr c28
                      clear c28
                      by_cases c29 : a3 ≤ (wrap64 ((l2.length : Int) - a1))
                      · rw [if_pos c29] at H
                        have c29b0 : decide (a3 ≤ (wrap64 ((l2.length : Int) - a1))) = true := decide_eq_true c29
                        clear c29
                        obtain rfl := Option.some.inj H
                        obtain ⟨Ao30, co30, eo30⟩ := Kd.R_slice HO_10.out
                        subst eo30
                        go_wp2
                        go_ret
                        exact ⟨by first | rfl | (simp [errW_none, errW_some] <;> rfl) | (simp [*, errW_none, errW_some] <;> rfl), by repeat (first | (with_reducible first | exact HB.out | apply below_alloc | apply pw_below_drewN | apply below_drew1) | exact HB.out)⟩
                      · rw [if_neg c29] at H
                        have c29b0 : decide (a3 ≤ (wrap64 ((l2.length : Int) - a1))) = false := decide_eq_false c29
                        clear c29
                        obtain rfl := Option.some.inj H
                        obtain ⟨Ao31, co31, eo31⟩ := Kd.R_slice HO_10.out
                        subst eo31
                        go_wp2
                        go_ret
                        exact ⟨by first | rfl | (simp [errW_none, errW_some] <;> rfl) | (simp [*, errW_none, errW_some] <;> rfl), by repeat (first | (with_reducible first | exact HB.out | apply below_alloc | apply pw_below_drewN | apply below_drew1) | exact HB.out)⟩
                    · rw [if_neg c28] at H
                      have c28b0 : (t151 == 0) = false := beq_eq_false_iff_ne.mpr c28
                      have c28b1 : (t151 != 0) = true := bne_iff_ne.mpr c28
                      by_cases c32 : a3 ≤ (wrap64 ((l2.length : Int) - a1))
                      · rw [if_pos c32] at H
                        have c32b0 : decide (a3 ≤ (wrap64 ((l2.length : Int) - a1))) = true := decide_eq_true c32
                        clear c32
                        obtain rfl := Option.some.inj H
                        obtain ⟨Ao33, co33, eo33⟩ := Kd.R_slice HO_10.out
                        subst eo33
                        go_wp2
                        go_ret
                        exact ⟨by first | rfl | (simp [errW_none, errW_some] <;> rfl) | (simp [*, errW_none, errW_some] <;> rfl), by repeat (first | (with_reducible first | exact HB.out | apply below_alloc | apply pw_below_drewN | apply below_drew1) | exact HB.out)⟩
                      · rw [if_neg c32] at H
                        have c32b0 : decide (a3 ≤ (wrap64 ((l2.length : Int) - a1))) = false := decide_eq_false c32
                        clear c32
                        by_cases c34 : t151 = 8
                        · rw [if_pos c34] at H
                          have c34b0 : (t151 == 8) = true := beq_iff_eq.mpr c34
                          have c34b1 : (t151 != 8) = false := bne_eq_false_iff_eq.mpr c34
                          clear c34
                          obtain rfl := Option.some.inj H
                          obtain ⟨Ao35, co35, eo35⟩ := Kd.R_slice HO_10.out
                          subst eo35
                          go_wp2
                          go_ret
                          exact ⟨by first | rfl | (simp [errW_none, errW_some] <;> rfl) | (simp [*, errW_none, errW_some] <;> rfl), by repeat (first | (with_reducible first | exact HB.out | apply below_alloc | apply pw_below_drewN | apply below_drew1) | exact HB.out)⟩
                        · rw [if_neg c34] at H
                          have c34b0 : (t151 == 8) = false := beq_eq_false_iff_ne.mpr c34
                          have c34b1 : (t151 != 8) = true := bne_iff_ne.mpr c34
                          obtain rfl := Option.some.inj H
                          obtain ⟨Ao36, co36, eo36⟩ := Kd.R_slice HO_10.out
                          subst eo36
                          go_wp2
                          go_ret
                          exact ⟨by first | rfl | (simp [errW_none, errW_some] <;> rfl) | (simp [*, errW_none, errW_some] <;> rfl), by repeat (first | (with_reducible first | exact HB.out | apply below_alloc | apply pw_below_drewN | apply below_drew1) | exact HB.out)⟩
                  · rw [if_neg c27] at H
                    have c27b0 : decide (0 ≤ a3) = false := decide_eq_false c27
                    clear c27
                    by_cases c37 : t151 = 0
                    · rw [if_pos c37] at H
                      have c37b0 : (t151 == 0) = true := beq_iff_eq.mpr c37
                      have c37b1 : (t151 != 0) = false := bne_eq_false_iff_eq.mpr c37
                      clear c37
                      obtain rfl := Option.some.inj H
                      obtain ⟨Ao38, co38, eo38⟩ := Kd.R_slice HO_10.out
                      subst eo38
                      go_wp2
                      go_ret
                      exact ⟨by first | rfl | (simp [errW_none, errW_some] <;> rfl) | (simp [*, errW_none, errW_some] <;> rfl), by repeat (first | (with_reducible first | exact HB.out | apply below_alloc | apply pw_below_drewN | apply below_drew1) | exact HB.out)⟩
                    · rw [if_neg c37] at H
                      have c37b0 : (t151 == 0) = false := beq_eq_false_iff_ne.mpr c37
                      have c37b1 : (t151 != 0) = true := bne_iff_ne.mpr c37
                      by_cases c39 : t151 = 8
                      · rw [if_pos c39] at H
                        have c39b0 : (t151 == 8) = true := beq_iff_eq.mpr c39
                        have c39b1 : (t151 != 8) = false := bne_eq_false_iff_eq.mpr c39
                        clear c39
                        obtain rfl := Option.some.inj H
                        obtain ⟨Ao40, co40, eo40⟩ := Kd.R_slice HO_10.out
                        subst eo40
                        go_wp2
                        go_ret
                        exact ⟨by first | rfl | (simp [errW_none, errW_some] <;> rfl) | (simp [*, errW_none, errW_some] <;> rfl), by repeat (first | (with_reducible first | exact HB.out | apply below_alloc | apply pw_below_drewN | apply below_drew1) | exact HB.out)⟩
                      · rw [if_neg c39] at H
                        have c39b0 : (t151 == 8) = false := beq_eq_false_iff_ne.mpr c39
                        have c39b1 : (t151 != 8) = true := bne_iff_ne.mpr c39
                        obtain rfl := Option.some.inj H
                        obtain ⟨Ao41, co41, eo41⟩ := Kd.R_slice HO_10.out
                        subst eo41
                        go_wp2
                        go_ret
                        exact ⟨by first | rfl | (simp [errW_none, errW_some] <;> rfl) | (simp [*, errW_none, errW_some] <;> rfl), by repeat (first | (with_reducible first | exact HB.out | apply below_alloc | apply pw_below_drewN | apply below_drew1) | exact HB.out)⟩
                · replace c26 := Bool.eq_false_iff.mpr c26
                  subst c26
                  have H1 : (some false) = some r := by rw [if_neg (show ¬ (false = true) by decide)] at H; exact H
                  clear H
                  have H := H1
                  clear H1
                  obtain rfl := Option.some.inj H
                  obtain ⟨Ao42, co42, eo42⟩ := Kd.R_slice HO_10.out
                  subst eo42
                  go_wp2
                  go_ret
                  exact ⟨by first | rfl | (simp [errW_none, errW_some] <;> rfl) | (simp [*, errW_none, errW_some] <;> rfl), by repeat (first | (with_reducible first | exact HB.out | apply below_alloc | apply pw_below_drewN | apply below_drew1) | exact HB.out)⟩
              · rw [if_neg c25] at H
                have c25b0 : ((t146.length : Int) == a1) = false := beq_eq_false_iff_ne.mpr c25
                have c25b1 : ((t146.length : Int) != a1) = true := bne_iff_ne.mpr c25
                obtain rfl := Option.some.inj H
                obtain ⟨Ao43, co43, eo43⟩ := Kd.R_slice HO_10.out
                subst eo43
                go_wp2
                go_ret
                exact ⟨by first | rfl | (simp [errW_none, errW_some] <;> rfl) | (simp [*, errW_none, errW_some] <;> rfl), by repeat (first | (with_reducible first | exact HB.out | apply below_alloc | apply pw_below_drewN | apply below_drew1) | exact HB.out)⟩
            · rw [if_neg c24] at H
              have c24b0 : (t147 == 0) = false := beq_eq_false_iff_ne.mpr c24
              have c24b1 : (t147 != 0) = true := bne_iff_ne.mpr c24
              obtain rfl := Option.some.inj H
              go_wp2
              go_ret
              exact ⟨by first | rfl | (simp [errW_none, errW_some] <;> rfl) | (simp [*, errW_none, errW_some] <;> rfl), by repeat (first | (with_reducible first | exact HB.out | apply below_alloc | apply pw_below_drewN | apply below_drew1) | exact HB.out)⟩
          · rw [if_neg c23] at H
            have c23b0 : (a1 == 8) = false := beq_eq_false_iff_ne.mpr c23
            have c23b1 : (a1 != 8) = true := bne_iff_ne.mpr c23
            by_cases c44 : a0 ≥ 0
            · rw [if_pos c44] at H
              have c44b0 : decide (0 ≤ a0) = true := decide_eq_true c44
              clear c44
              obtain ⟨ji45, hji45⟩ : ∃ j_ : Int, (wrap64 (8 * a1)) = j_ := ⟨_, rfl⟩
              replace H : (if 0 ≤ (ji45) then (if t147 = 0 then (if a0 < (shl .i64 1 (ji45)) then (if (t146.length : Int) = a1 then (if t145 = true then (if a3 ≥ 0 then (if t151 = 0 then (if a3 ≤ (wrap64 ((l2.length : Int) - a1)) then (some true) else (some false)) else (if a3 ≤ (wrap64 ((l2.length : Int) - a1)) then (some false) else (if t151 = 8 then (some (t150 == 0)) else (some false)))) else (if t151 = 0 then (some false) else (if t151 = 8 then (some (t150 == 0)) else (some false)))) else (some false)) else (some false)) else (some false)) else (if a0 < (shl .i64 1 (ji45)) then (some false) else (if (t146.length : Int) = 0 then (if t147 = 2 then (if t145 = true then (if a3 ≥ 0 then (if t151 = 0 then (if a3 ≤ (wrap64 ((l2.length : Int) - a1)) then (some true) else (some false)) else (if a3 ≤ (wrap64 ((l2.length : Int) - a1)) then (some false) else (if t151 = 8 then (some (t150 == 0)) else (some false)))) else (if t151 = 0 then (some false) else (if t151 = 8 then (some (t150 == 0)) else (some false)))) else (some false)) else (some false)) else (some false)))) else (none)) = some r := by first | (rw [hji45] at H; exact H) | (simp only [hji45] at H ⊢; exact H)
              have hji45w : (IntKind.i64.wrap (8 * a1)) = ji45 := (i64_w _).trans hji45
              by_cases c46 : 0 ≤ (ji45)
              · rw [if_pos c46] at H
                have c46b0 := eq_true c46
                have c46b1 : decide (0 ≤ (ji45)) = true := decide_eq_true c46
                clear c46
                obtain ⟨ji47, hji47⟩ : ∃ j_ : Int, (shl .i64 1 (ji45)) = j_ := ⟨_, rfl⟩
                replace H : (if t147 = 0 then (if a0 < (ji47) then (if (t146.length : Int) = a1 then (if t145 = true then (if a3 ≥ 0 then (if t151 = 0 then (if a3 ≤ (wrap64 ((l2.length : Int) - a1)) then (some true) else (some false)) else (if a3 ≤ (wrap64 ((l2.length : Int) - a1)) then (some false) else (if t151 = 8 then (some (t150 == 0)) else (some false)))) else (if t151 = 0 then (some false) else (if t151 = 8 then (some (t150 == 0)) else (some false)))) else (some false)) else (some false)) else (some false)) else (if a0 < (ji47) then (some false) else (if (t146.length : Int) = 0 then (if t147 = 2 then (if t145 = true then (if a3 ≥ 0 then (if t151 = 0 then (if a3 ≤ (wrap64 ((l2.length : Int) - a1)) then (some true) else (some false)) else (if a3 ≤ (wrap64 ((l2.length : Int) - a1)) then (some false) else (if t151 = 8 then (some (t150 == 0)) else (some false)))) else (if t151 = 0 then (some false) else (if t151 = 8 then (some (t150 == 0)) else (some false)))) else (some false)) else (some false)) else (some false)))) = some r := by first | (rw [hji47] at H; exact H) | (simp only [hji47] at H ⊢; exact H)
                have hji47_ : (IntKind.i64.wrap (1 * 2 ^ min (ji45).toNat 64)) = ji47 := hji47
                have hji47z : (ji45) ≤ 64 → (IntKind.i64.wrap (1 * 2 ^ (ji45).toNat)) = ji47 := shl_small hji47
                have hji47u : (IntKind.i64.wrap (2 ^ min (ji45).toNat 64)) = ji47 := by have h_ := hji47_; rw [Int.one_mul] at h_; exact h_
                have hji47v : (ji45) ≤ 64 → (IntKind.i64.wrap (2 ^ (ji45).toNat)) = ji47 := fun hle_ => by have h_ := hji47z hle_; rw [Int.one_mul] at h_; exact h_
                have hji47y : (wrap64 (1 * 2 ^ min (ji45).toNat 64)) = ji47 := (i64_w _).symm.trans hji47_
                have hji47x : (ji45) ≤ 64 → (wrap64 (1 * 2 ^ (ji45).toNat)) = ji47 := fun h_ => (i64_w _).symm.trans (hji47z h_)
                by_cases c48 : t147 = 0
                · rw [if_pos c48] at H
                  have c48b0 : (t147 == 0) = true := beq_iff_eq.mpr c48
                  have c48b1 : (t147 != 0) = false := bne_eq_false_iff_eq.mpr c48
                  clear c48
                  by_cases c49 : a0 < (ji47)
                  · rw [if_pos c49] at H
                    have c49b0 : decide (a0 < (ji47)) = true := decide_eq_true c49
                    clear c49
                    by_cases c50 : (t146.length : Int) = a1
                    · rw [if_pos c50] at H
                      have c50b0 : ((t146.length : Int) == a1) = true := beq_iff_eq.mpr c50
                      have c50b1 : ((t146.length : Int) != a1) = false := bne_eq_false_iff_eq.mpr c50
                      clear c50
                      by_cases c51 : t145 = true
                      · subst c51
                        have H1 : (if a3 ≥ 0 then (if t151 = 0 then (if a3 ≤ (wrap64 ((l2.length : Int) - a1)) then (some true) else (some false)) else (if a3 ≤ (wrap64 ((l2.length : Int) - a1)) then (some false) else (if t151 = 8 then (some (t150 == 0)) else (some false)))) else (if t151 = 0 then (some false) else (if t151 = 8 then (some (t150 == 0)) else (some false)))) = some r := by rw [if_pos rfl] at H; exact H
                        clear H
                        have H := H1
                        clear H1
                        by_cases c52 : a3 ≥ 0
                        · rw [if_pos c52] at H
                          have c52b0 : decide (0 ≤ a3) = true := decide_eq_true c52
                          clear c52
                          by_cases c53 : t151 = 0
                          · rw [if_pos c53] at H
                            have c53b0 : (t151 == 0) = true := beq_iff_eq.mpr c53
                            have c53b1 : (t151 != 0) = false := bne_eq_false_iff_eq.mpr c53
                            clear c53
                            by_cases c54 : a3 ≤ (wrap64 ((l2.length : Int) - a1))
                            · rw [if_pos c54] at H
                              have c54b0 : decide (a3 ≤ (wrap64 ((l2.length : Int) - a1))) = true := decide_eq_true c54
                              clear c54
                              obtain rfl := Option.some.inj H
                              obtain ⟨Ao55, co55, eo55⟩ := Kd.R_slice HO_10.out
                              subst eo55
                              go_wp2
                              go_ret
                              exact ⟨by first | rfl | (simp [errW_none, errW_some] <;> rfl) | (simp only [← hji45, ← hji47]; first | rfl | (simp [errW_none, errW_some] <;> rfl)) | (simp [*, errW_none, errW_some] <;> rfl), by repeat (first | (with_reducible first | exact HB.out | apply below_alloc | apply pw_below_drewN | apply below_drew1) | exact HB.out)⟩
                            · rw [if_neg c54] at H
                              have c54b0 : decide (a3 ≤ (wrap64 ((l2.length : Int) - a1))) = false := decide_eq_false c54
                              clear c54
                              obtain rfl := Option.some.inj H
                              obtain ⟨Ao56, co56, eo56⟩ := Kd.R_slice HO_10.out
                              subst eo56
                              go_wp2
                              go_ret
                              exact ⟨by first | rfl | (simp [errW_none, errW_some] <;> rfl) | (simp only [← hji45, ← hji47]; first | rfl | (simp [errW_none, errW_some] <;> rfl)) | (simp [*, errW_none, errW_some] <;> rfl), by repeat (first | (with_reducible first | exact HB.out | apply below_alloc | apply pw_below_drewN | apply below_drew1) | exact HB.out)⟩
                          · rw [if_neg c53] at H
                            have c53b0 : (t151 == 0) = false := beq_eq_false_iff_ne.mpr c53
                            have c53b1 : (t151 != 0) = true := bne_iff_ne.mpr c53
                            by_cases c57 : a3 ≤ (wrap64 ((l2.length : Int) - a1))
                            · rw [if_pos c57] at H
                              have c57b0 : decide (a3 ≤ (wrap64 ((l2.length : Int) - a1))) = true := decide_eq_true c57
                              clear c57
                              obtain rfl := Option.some.inj H
                              obtain ⟨Ao58, co58, eo58⟩ := Kd.R_slice HO_10.out
                              subst eo58
                              go_wp2
                              go_ret
                              exact ⟨by first | rfl | (simp [errW_none, errW_some] <;> rfl) | (simp only [← hji45, ← hji47]; first | rfl | (simp [errW_none, errW_some] <;> rfl)) | (simp [*, errW_none, errW_some] <;> rfl), by repeat (first | (with_reducible first | exact HB.out | apply below_alloc | apply pw_below_drewN | apply below_drew1) | exact HB.out)⟩
                            · rw [if_neg c57] at H
                              have c57b0 : decide (a3 ≤ (wrap64 ((l2.length : Int) - a1))) = false := decide_eq_false c57
                              clear c57
                              by_cases c59 : t151 = 8
                              · rw [if_pos c59] at H
                                have c59b0 : (t151 == 8) = true := beq_iff_eq.mpr c59
                                have c59b1 : (t151 != 8) = false := bne_eq_false_iff_eq.mpr c59
                                clear c59
                                obtain rfl := Option.some.inj H
                                obtain ⟨Ao60, co60, eo60⟩ := Kd.R_slice HO_10.out
                                subst eo60
                                go_wp2
                                go_ret
                                exact ⟨by first | rfl | (simp [errW_none, errW_some] <;> rfl) | (simp only [← hji45, ← hji47]; first | rfl | (simp [errW_none, errW_some] <;> rfl)) | (simp [*, errW_none, errW_some] <;> rfl), by repeat (first | (with_reducible first | exact HB.out | apply below_alloc | apply pw_below_drewN | apply below_drew1) | exact HB.out)⟩
                              · rw [if_neg c59] at H
                                have c59b0 : (t151 == 8) = false := beq_eq_false_iff_ne.mpr c59
                                have c59b1 : (t151 != 8) = true := bne_iff_ne.mpr c59
                                obtain rfl := Option.some.inj H
                                obtain ⟨Ao61, co61, eo61⟩ := Kd.R_slice HO_10.out
                                subst eo61
                                go_wp2
                                go_ret
                                exact ⟨by first | rfl | (simp [errW_none, errW_some] <;> rfl) | (simp only [← hji45, ← hji47]; first | rfl | (simp [errW_none, errW_some] <;> rfl)) | (simp [*, errW_none, errW_some] <;> rfl), by repeat (first | (with_reducible first | exact HB.out | apply below_alloc | apply pw_below_drewN | apply below_drew1) | exact HB.out)⟩
                        · rw [if_neg c52] at H
                          have c52b0 : decide (0 ≤ a3) = false := decide_eq_false c52
                          clear c52
                          by_cases c62 : t151 = 0
                          · rw [if_pos c62] at H
                            have c62b0 : (t151 == 0) = true := beq_iff_eq.mpr c62
                            have c62b1 : (t151 != 0) = false := bne_eq_false_iff_eq.mpr c62
                            clear c62
                            obtain rfl := Option.some.inj H
                            obtain ⟨Ao63, co63, eo63⟩ := Kd.R_slice HO_10.out
                            subst eo63
                            go_wp2
                            go_ret
                            exact ⟨by first | rfl | (simp [errW_none, errW_some] <;> rfl) | (simp only [← hji45, ← hji47]; first | rfl | (simp [errW_none, errW_some] <;> rfl)) | (simp [*, errW_none, errW_some] <;> rfl), by repeat (first | (with_reducible first | exact HB.out | apply below_alloc | apply pw_below_drewN | apply below_drew1) | exact HB.out)⟩
                          · rw [if_neg c62] at H
                            have c62b0 : (t151 == 0) = false := beq_eq_false_iff_ne.mpr c62
                            have c62b1 : (t151 != 0) = true := bne_iff_ne.mpr c62
                            by_cases c64 : t151 = 8
                            · rw [if_pos c64] at H
                              have c64b0 : (t151 == 8) = true := beq_iff_eq.mpr c64
                              have c64b1 : (t151 != 8) = false := bne_eq_false_iff_eq.mpr c64
                              clear c64
                              obtain rfl := Option.some.inj H
                              obtain ⟨Ao65, co65, eo65⟩ := Kd.R_slice HO_10.out
                              subst eo65
                              go_wp2
                              go_ret
                              exact ⟨by first | rfl | (simp [errW_none, errW_some] <;> rfl) | (simp only [← hji45, ← hji47]; first | rfl | (simp [errW_none, errW_some] <;> rfl)) | (simp [*, errW_none, errW_some] <;> rfl), by repeat (first | (with_reducible first | exact HB.out | apply below_alloc | apply pw_below_drewN | apply below_drew1) | exact HB.out)⟩
                            · rw [if_neg c64] at H
                              have c64b0 : (t151 == 8) = false := beq_eq_false_iff_ne.mpr c64
                              have c64b1 : (t151 != 8) = true := bne_iff_ne.mpr c64
                              obtain rfl := Option.some.inj H
                              obtain ⟨Ao66, co66, eo66⟩ := Kd.R_slice HO_10.out
                              subst eo66
                              go_wp2
                              go_ret
                              exact ⟨by first | rfl | (simp [errW_none, errW_some] <;> rfl) | (simp only [← hji45, ← hji47]; first | rfl | (simp [errW_none, errW_some] <;> rfl)) | (simp [*, errW_none, errW_some] <;> rfl), by repeat (first | (with_reducible first | exact HB.out | apply below_alloc | apply pw_below_drewN | apply below_drew1) | exact HB.out)⟩
                      · replace c51 := Bool.eq_false_iff.mpr c51
                        subst c51
                        have H1 : (some false) = some r := by rw [if_neg (show ¬ (false = true) by decide)] at H; exact H
                        clear H
                        have H := H1
                        clear H1
                        obtain rfl := Option.some.inj H
                        obtain ⟨Ao67, co67, eo67⟩ := Kd.R_slice HO_10.out
                        subst eo67
                        go_wp2
                        go_ret
                        exact ⟨by first | rfl | (simp [errW_none, errW_some] <;> rfl) | (simp only [← hji45, ← hji47]; first | rfl | (simp [errW_none, errW_some] <;> rfl)) | (simp [*, errW_none, errW_some] <;> rfl), by repeat (first | (with_reducible first | exact HB.out | apply below_alloc | apply pw_below_drewN | apply below_drew1) | exact HB.out)⟩
                    · rw [if_neg c50] at H
                      have c50b0 : ((t146.length : Int) == a1) = false := beq_eq_false_iff_ne.mpr c50
                      have c50b1 : ((t146.length : Int) != a1) = true := bne_iff_ne.mpr c50
                      obtain rfl := Option.some.inj H
                      obtain ⟨Ao68, co68, eo68⟩ := Kd.R_slice HO_10.out
                      subst eo68
                      go_wp2
                      go_ret
                      exact ⟨by first | rfl | (simp [errW_none, errW_some] <;> rfl) | (simp only [← hji45, ← hji47]; first | rfl | (simp [errW_none, errW_some] <;> rfl)) | (simp [*, errW_none, errW_some] <;> rfl), by repeat (first | (with_reducible first | exact HB.out | apply below_alloc | apply pw_below_drewN | apply below_drew1) | exact HB.out)⟩
                  · rw [if_neg c49] at H
                    have c49b0 : decide (a0 < (ji47)) = false := decide_eq_false c49
                    clear c49
                    obtain rfl := Option.some.inj H
                    go_wp2
                    go_ret
                    exact ⟨by first | rfl | (simp [errW_none, errW_some] <;> rfl) | (simp only [← hji45, ← hji47]; first | rfl | (simp [errW_none, errW_some] <;> rfl)) | (simp [*, errW_none, errW_some] <;> rfl), by repeat (first | (with_reducible first | exact HB.out | apply below_alloc | apply pw_below_drewN | apply below_drew1) | exact HB.out)⟩
                · rw [if_neg c48] at H
                  have c48b0 : (t147 == 0) = false := beq_eq_false_iff_ne.mpr c48
                  have c48b1 : (t147 != 0) = true := bne_iff_ne.mpr c48
                  by_cases c69 : a0 < (ji47)
                  · rw [if_pos c69] at H
                    have c69b0 : decide (a0 < (ji47)) = true := decide_eq_true c69
                    clear c69
                    obtain rfl := Option.some.inj H
                    go_wp2
                    go_ret
                    exact ⟨by first | rfl | (simp [errW_none, errW_some] <;> rfl) | (simp only [← hji45, ← hji47]; first | rfl | (simp [errW_none, errW_some] <;> rfl)) | (simp [*, errW_none, errW_some] <;> rfl), by repeat (first | (with_reducible first | exact HB.out | apply below_alloc | apply pw_below_drewN | apply below_drew1) | exact HB.out)⟩
                  · rw [if_neg c69] at H
                    have c69b0 : decide (a0 < (ji47)) = false := decide_eq_false c69
                    clear c69
                    by_cases c70 : (t146.length : Int) = 0
                    · rw [if_pos c70] at H
                      have c70b0 : ((t146.length : Int) == 0) = true := beq_iff_eq.mpr c70
                      have c70b1 : ((t146.length : Int) != 0) = false := bne_eq_false_iff_eq.mpr c70
                      clear c70
                      by_cases c71 : t147 = 2
                      · rw [if_pos c71] at H
                        have c71b0 : (t147 == 2) = true := beq_iff_eq.mpr c71
                        have c71b1 : (t147 != 2) = false := bne_eq_false_iff_eq.mpr c71
                        clear c71
                        by_cases c72 : t145 = true
                        · subst c72
                          have H1 : (if a3 ≥ 0 then (if t151 = 0 then (if a3 ≤ (wrap64 ((l2.length : Int) - a1)) then (some true) else (some false)) else (if a3 ≤ (wrap64 ((l2.length : Int) - a1)) then (some false) else (if t151 = 8 then (some (t150 == 0)) else (some false)))) else (if t151 = 0 then (some false) else (if t151 = 8 then (some (t150 == 0)) else (some false)))) = some r := by rw [if_pos rfl] at H; exact H
                          clear H
                          have H := H1
                          clear H1
                          by_cases c73 : a3 ≥ 0
                          · rw [if_pos c73] at H
                            have c73b0 : decide (0 ≤ a3) = true := decide_eq_true c73
                            clear c73
                            by_cases c74 : t151 = 0
                            · rw [if_pos c74] at H
                              have c74b0 : (t151 == 0) = true := beq_iff_eq.mpr c74
                              have c74b1 : (t151 != 0) = false := bne_eq_false_iff_eq.mpr c74
                              clear c74
                              by_cases c75 : a3 ≤ (wrap64 ((l2.length : Int) - a1))
                              · rw [if_pos c75] at H
                                have c75b0 : decide (a3 ≤ (wrap64 ((l2.length : Int) - a1))) = true := decide_eq_true c75
                                clear c75
                                obtain rfl := Option.some.inj H
                                obtain ⟨Ao76, co76, eo76⟩ := Kd.R_slice HO_10.out
                                subst eo76
                                go_wp2
                                go_ret
                                exact ⟨by first | rfl | (simp [errW_none, errW_some] <;> rfl) | (simp only [← hji45, ← hji47]; first | rfl | (simp [errW_none, errW_some] <;> rfl)) | (simp [*, errW_none, errW_some] <;> rfl), by repeat (first | (with_reducible first | exact HB.out | apply below_alloc | apply pw_below_drewN | apply below_drew1) | exact HB.out)⟩
                              · rw [if_neg c75] at H
                                have c75b0 : decide (a3 ≤ (wrap64 ((l2.length : Int) - a1))) = false := decide_eq_false c75
                                clear c75
                                obtain rfl := Option.some.inj H
                                obtain ⟨Ao77, co77, eo77⟩ := Kd.R_slice HO_10.out
                                subst eo77
                                go_wp2
                                go_ret
                                exact ⟨by first | rfl | (simp [errW_none, errW_some] <;> rfl) | (simp only [← hji45, ← hji47]; first | rfl | (simp [errW_none, errW_some] <;> rfl)) | (simp [*, errW_none, errW_some] <;> rfl), by repeat (first | (with_reducible first | exact HB.out | apply below_alloc | apply pw_below_drewN | apply below_drew1) | exact HB.out)⟩
                            · rw [if_neg c74] at H
                              have c74b0 : (t151 == 0) = false := beq_eq_false_iff_ne.mpr c74
                              have c74b1 : (t151 != 0) = true := bne_iff_ne.mpr c74
                              by_cases c78 : a3 ≤ (wrap64 ((l2.length : Int) - a1))
                              · rw [if_pos c78] at H
                                have c78b0 : decide (a3 ≤ (wrap64 ((l2.length : Int) - a1))) = true := decide_eq_true c78
                                clear c78
                                obtain rfl := Option.some.inj H
                                obtain ⟨Ao79, co79, eo79⟩ := Kd.R_slice HO_10.out
                                subst eo79
                                go_wp2
                                go_ret
                                exact ⟨by first | rfl | (simp [errW_none, errW_some] <;> rfl) | (simp only [← hji45, ← hji47]; first | rfl | (simp [errW_none, errW_some] <;> rfl)) | (simp [*, errW_none, errW_some] <;> rfl), by repeat (first | (with_reducible first | exact HB.out | apply below_alloc | apply pw_below_drewN | apply below_drew1) | exact HB.out)⟩
                              · rw [if_neg c78] at H
                                have c78b0 : decide (a3 ≤ (wrap64 ((l2.length : Int) - a1))) = false := decide_eq_false c78
                                clear c78
                                by_cases c80 : t151 = 8
                                · rw [if_pos c80] at H
                                  have c80b0 : (t151 == 8) = true := beq_iff_eq.mpr c80
                                  have c80b1 : (t151 != 8) = false := bne_eq_false_iff_eq.mpr c80
                                  clear c80
                                  obtain rfl := Option.some.inj H
                                  obtain ⟨Ao81, co81, eo81⟩ := Kd.R_slice HO_10.out
                                  subst eo81
                                  go_wp2
                                  go_ret
                                  exact ⟨by first | rfl | (simp [errW_none, errW_some] <;> rfl) | (simp only [← hji45, ← hji47]; first | rfl | (simp [errW_none, errW_some] <;> rfl)) | (simp [*, errW_none, errW_some] <;> rfl), by repeat (first | (with_reducible first | exact HB.out | apply below_alloc | apply pw_below_drewN | apply below_drew1) | exact HB.out)⟩
                                · rw [if_neg c80] at H
                                  have c80b0 : (t151 == 8) = false := beq_eq_false_iff_ne.mpr c80
                                  have c80b1 : (t151 != 8) = true := bne_iff_ne.mpr c80
                                  obtain rfl := Option.some.inj H
                                  obtain ⟨Ao82, co82, eo82⟩ := Kd.R_slice HO_10.out
                                  subst eo82
                                  go_wp2
                                  go_ret
                                  exact ⟨by first | rfl | (simp [errW_none, errW_some] <;> rfl) | (simp only [← hji45, ← hji47]; first | rfl | (simp [errW_none, errW_some] <;> rfl)) | (simp [*, errW_none, errW_some] <;> rfl), by repeat (first | (with_reducible first | exact HB.out | apply below_alloc | apply pw_below_drewN | apply below_drew1) | exact HB.out)⟩
                          · rw [if_neg c73] at H
                            have c73b0 : decide (0 ≤ a3) = false := decide_eq_false c73
                            clear c73
                            by_cases c83 : t151 = 0
                            · rw [if_pos c83] at H
                              have c83b0 : (t151 == 0) = true := beq_iff_eq.mpr c83
                              have c83b1 : (t151 != 0) = false := bne_eq_false_iff_eq.mpr c83
                              clear c83
                              obtain rfl := Option.some.inj H
                              obtain ⟨Ao84, co84, eo84⟩ := Kd.R_slice HO_10.out
                              subst eo84
                              go_wp2
                              go_ret
                              exact ⟨by first | rfl | (simp [errW_none, errW_some] <;> rfl) | (simp only [← hji45, ← hji47]; first | rfl | (simp [errW_none, errW_some] <;> rfl)) | (simp [*, errW_none, errW_some] <;> rfl), by repeat (first | (with_reducible first | exact HB.out | apply below_alloc | apply pw_below_drewN | apply below_drew1) | exact HB.out)⟩
                            · rw [if_neg c83] at H
                              have c83b0 : (t151 == 0) = false := beq_eq_false_iff_ne.mpr c83
                              have c83b1 : (t151 != 0) = true := bne_iff_ne.mpr c83
                              by_cases c85 : t151 = 8
                              · rw [if_pos c85] at H
                                have c85b0 : (t151 == 8) = true := beq_iff_eq.mpr c85
                                have c85b1 : (t151 != 8) = false := bne_eq_false_iff_eq.mpr c85
                                clear c85
                                obtain rfl := Option.some.inj H
                                obtain ⟨Ao86, co86, eo86⟩ := Kd.R_slice HO_10.out
                                subst eo86
                                go_wp2
                                go_ret
                                exact ⟨by first | rfl | (simp [errW_none, errW_some] <;> rfl) | (simp only [← hji45, ← hji47]; first | rfl | (simp [errW_none, errW_some] <;> rfl)) | (simp [*, errW_none, errW_some] <;> rfl), by repeat (first | (with_reducible first | exact HB.out | apply below_alloc | apply pw_below_drewN | apply below_drew1) | exact HB.out)⟩
                              · rw [if_neg c85] at H
                                have c85b0 : (t151 == 8) = false := beq_eq_false_iff_ne.mpr c85
                                have c85b1 : (t151 != 8) = true := bne_iff_ne.mpr c85
                                obtain rfl := Option.some.inj H
                                obtain ⟨Ao87, co87, eo87⟩ := Kd.R_slice HO_10.out
                                subst eo87
                                go_wp2
                                go_ret
                                exact ⟨by first | rfl | (simp [errW_none, errW_some] <;> rfl) | (simp only [← hji45, ← hji47]; first | rfl | (simp [errW_none, errW_some] <;> rfl)) | (simp [*, errW_none, errW_some] <;> rfl), by repeat (first | (with_reducible first | exact HB.out | apply below_alloc | apply pw_below_drewN | apply below_drew1) | exact HB.out)⟩
                        · replace c72 := Bool.eq_false_iff.mpr c72
                          subst c72
                          have H1 : (some false) = some r := by rw [if_neg (show ¬ (false = true) by decide)] at H; exact H
                          clear H
                          have H := H1
                          clear H1
                          obtain rfl := Option.some.inj H
                          obtain ⟨Ao88, co88, eo88⟩ := Kd.R_slice HO_10.out
                          subst eo88
                          go_wp2
                          go_ret
                          exact ⟨by first | rfl | (simp [errW_none, errW_some] <;> rfl) | (simp only [← hji45, ← hji47]; first | rfl | (simp [errW_none, errW_some] <;> rfl)) | (simp [*, errW_none, errW_some] <;> rfl), by repeat (first | (with_reducible first | exact HB.out | apply below_alloc | apply pw_below_drewN | apply below_drew1) | exact HB.out)⟩
                      · rw [if_neg c71] at H
                        have c71b0 : (t147 == 2) = false := beq_eq_false_iff_ne.mpr c71
                        have c71b1 : (t147 != 2) = true := bne_iff_ne.mpr c71
                        obtain rfl := Option.some.inj H
                        obtain ⟨Ao89, co89, eo89⟩ := Kd.R_slice HO_10.out
                        subst eo89
                        go_wp2
                        go_ret
                        exact ⟨by first | rfl | (simp [errW_none, errW_some] <;> rfl) | (simp only [← hji45, ← hji47]; first | rfl | (simp [errW_none, errW_some] <;> rfl)) | (simp [*, errW_none, errW_some] <;> rfl), by repeat (first | (with_reducible first | exact HB.out | apply below_alloc | apply pw_below_drewN | apply below_drew1) | exact HB.out)⟩
                    · rw [if_neg c70] at H
                      have c70b0 : ((t146.length : Int) == 0) = false := beq_eq_false_iff_ne.mpr c70
                      have c70b1 : ((t146.length : Int) != 0) = true := bne_iff_ne.mpr c70
                      have c70b2 : ¬ (t146 = []) := fun h_ => c70 (by rw [h_]; rfl)
                      obtain rfl := Option.some.inj H
                      obtain ⟨Ao90, co90, eo90⟩ := Kd.R_slice HO_10.out
                      subst eo90
                      go_wp2
                      go_ret
                      exact ⟨by first | rfl | (simp [errW_none, errW_some] <;> rfl) | (simp only [← hji45, ← hji47]; first | rfl | (simp [errW_none, errW_some] <;> rfl)) | (simp [*, errW_none, errW_some] <;> rfl), by repeat (first | (with_reducible first | exact HB.out | apply below_alloc | apply pw_below_drewN | apply below_drew1) | exact HB.out)⟩
              · rw [if_neg c46] at H
                exact absurd H (by simp)
            · rw [if_neg c44] at H
              have c44b0 : decide (0 ≤ a0) = false := decide_eq_false c44
              clear c44
              by_cases c91 : t147 = 0
              · rw [if_pos c91] at H
                have c91b0 : (t147 == 0) = true := beq_iff_eq.mpr c91
                have c91b1 : (t147 != 0) = false := bne_eq_false_iff_eq.mpr c91
                clear c91
                obtain rfl := Option.some.inj H
                go_wp2
                go_ret
                exact ⟨by first | rfl | (simp [errW_none, errW_some] <;> rfl) | (simp [*, errW_none, errW_some] <;> rfl), by repeat (first | (with_reducible first | exact HB.out | apply below_alloc | apply pw_below_drewN | apply below_drew1) | exact HB.out)⟩
              · rw [if_neg c91] at H
                have c91b0 : (t147 == 0) = false := beq_eq_false_iff_ne.mpr c91
                have c91b1 : (t147 != 0) = true := bne_iff_ne.mpr c91
                by_cases c92 : (t146.length : Int) = 0
                · rw [if_pos c92] at H
                  have c92b0 : ((t146.length : Int) == 0) = true := beq_iff_eq.mpr c92
                  have c92b1 : ((t146.length : Int) != 0) = false := bne_eq_false_iff_eq.mpr c92
                  clear c92
                  by_cases c93 : t147 = 2
                  · rw [if_pos c93] at H
                    have c93b0 : (t147 == 2) = true := beq_iff_eq.mpr c93
                    have c93b1 : (t147 != 2) = false := bne_eq_false_iff_eq.mpr c93
                    clear c93
                    by_cases c94 : t145 = true
                    · subst c94
                      have H1 : (if a3 ≥ 0 then (if t151 = 0 then (if a3 ≤ (wrap64 ((l2.length : Int) - a1)) then (some true) else (some false)) else (if a3 ≤ (wrap64 ((l2.length : Int) - a1)) then (some false) else (if t151 = 8 then (some (t150 == 0)) else (some false)))) else (if t151 = 0 then (some false) else (if t151 = 8 then (some (t150 == 0)) else (some false)))) = some r := by rw [if_pos rfl] at H; exact H
                      clear H
                      have H := H1
                      clear H1
                      by_cases c95 : a3 ≥ 0
                      · rw [if_pos c95] at H
                        have c95b0 : decide (0 ≤ a3) = true := decide_eq_true c95
                        clear c95
                        by_cases c96 : t151 = 0
                        · rw [if_pos c96] at H
                          have c96b0 : (t151 == 0) = true := beq_iff_eq.mpr c96
                          have c96b1 : (t151 != 0) = false := bne_eq_false_iff_eq.mpr c96
                          clear c96
                          by_cases c97 : a3 ≤ (wrap64 ((l2.length : Int) - a1))
                          · rw [if_pos c97] at H
                            have c97b0 : decide (a3 ≤ (wrap64 ((l2.length : Int) - a1))) = true := decide_eq_true c97
                            clear c97
                            obtain rfl := Option.some.inj H
                            obtain ⟨Ao98, co98, eo98⟩ := Kd.R_slice HO_10.out
                            subst eo98
                            go_wp2
                            go_ret
                            exact ⟨by first | rfl | (simp [errW_none, errW_some] <;> rfl) | (simp [*, errW_none, errW_some] <;> rfl), by repeat (first | (with_reducible first | exact HB.out | apply below_alloc | apply pw_below_drewN | apply below_drew1) | exact HB.out)⟩
                          · rw [if_neg c97] at H
                            have c97b0 : decide (a3 ≤ (wrap64 ((l2.length : Int) - a1))) = false := decide_eq_false c97
                            clear c97
                            obtain rfl := Option.some.inj H
                            obtain ⟨Ao99, co99, eo99⟩ := Kd.R_slice HO_10.out
                            subst eo99
                            go_wp2
                            go_ret
                            exact ⟨by first | rfl | (simp [errW_none, errW_some] <;> rfl) | (simp [*, errW_none, errW_some] <;> rfl), by repeat (first | (with_reducible first | exact HB.out | apply below_alloc | apply pw_below_drewN | apply below_drew1) | exact HB.out)⟩
                        · rw [if_neg c96] at H
                          have c96b0 : (t151 == 0) = false := beq_eq_false_iff_ne.mpr c96
                          have c96b1 : (t151 != 0) = true := bne_iff_ne.mpr c96
                          by_cases c100 : a3 ≤ (wrap64 ((l2.length : Int) - a1))
                          · rw [if_pos c100] at H
                            have c100b0 : decide (a3 ≤ (wrap64 ((l2.length : Int) - a1))) = true := decide_eq_true c100
                            clear c100
                            obtain rfl := Option.some.inj H
                            obtain ⟨Ao101, co101, eo101⟩ := Kd.R_slice HO_10.out
                            subst eo101
                            go_wp2
                            go_ret
                            exact ⟨by first | rfl | (simp [errW_none, errW_some] <;> rfl) | (simp [*, errW_none, errW_some] <;> rfl), by repeat (first | (with_reducible first | exact HB.out | apply below_alloc | apply pw_below_drewN | apply below_drew1) | exact HB.out)⟩
                          · rw [if_neg c100] at H
                            have c100b0 : decide (a3 ≤ (wrap64 ((l2.length : Int) - a1))) = false := decide_eq_false c100
                            clear c100
                            by_cases c102 : t151 = 8
                            · rw [if_pos c102] at H
                              have c102b0 : (t151 == 8) = true := beq_iff_eq.mpr c102
                              have c102b1 : (t151 != 8) = false := bne_eq_false_iff_eq.mpr c102
                              clear c102
                              obtain rfl := Option.some.inj H
                              obtain ⟨Ao103, co103, eo103⟩ := Kd.R_slice HO_10.out
                              subst eo103
                              go_wp2
                              go_ret
                              exact ⟨by first | rfl | (simp [errW_none, errW_some] <;> rfl) | (simp [*, errW_none, errW_some] <;> rfl), by repeat (first | (with_reducible first | exact HB.out | apply below_alloc | apply pw_below_drewN | apply below_drew1) | exact HB.out)⟩
                            · rw [if_neg c102] at H
                              have c102b0 : (t151 == 8) = false := beq_eq_false_iff_ne.mpr c102
                              have c102b1 : (t151 != 8) = true := bne_iff_ne.mpr c102
                              obtain rfl := Option.some.inj H
                              obtain ⟨Ao104, co104, eo104⟩ := Kd.R_slice HO_10.out
                              subst eo104
                              go_wp2
                              go_ret
                              exact ⟨by first | rfl | (simp [errW_none, errW_some] <;> rfl) | (simp [*, errW_none, errW_some] <;> rfl), by repeat (first | (with_reducible first | exact HB.out | apply below_alloc | apply pw_below_drewN | apply below_drew1) | exact HB.out)⟩
                      · rw [if_neg c95] at H
                        have c95b0 : decide (0 ≤ a3) = false := decide_eq_false c95
                        clear c95
                        by_cases c105 : t151 = 0
                        · rw [if_pos c105] at H
                          have c105b0 : (t151 == 0) = true := beq_iff_eq.mpr c105
                          have c105b1 : (t151 != 0) = false := bne_eq_false_iff_eq.mpr c105
                          clear c105
                          obtain rfl := Option.some.inj H
                          obtain ⟨Ao106, co106, eo106⟩ := Kd.R_slice HO_10.out
                          subst eo106
                          go_wp2
                          go_ret
                          exact ⟨by first | rfl | (simp [errW_none, errW_some] <;> rfl) | (simp [*, errW_none, errW_some] <;> rfl), by repeat (first | (with_reducible first | exact HB.out | apply below_alloc | apply pw_below_drewN | apply below_drew1) | exact HB.out)⟩
                        · rw [if_neg c105] at H
                          have c105b0 : (t151 == 0) = false := beq_eq_false_iff_ne.mpr c105
                          have c105b1 : (t151 != 0) = true := bne_iff_ne.mpr c105
                          by_cases c107 : t151 = 8
                          · rw [if_pos c107] at H
                            have c107b0 : (t151 == 8) = true := beq_iff_eq.mpr c107
                            have c107b1 : (t151 != 8) = false := bne_eq_false_iff_eq.mpr c107
                            clear c107
                            obtain rfl := Option.some.inj H
                            obtain ⟨Ao108, co108, eo108⟩ := Kd.R_slice HO_10.out
                            subst eo108
                            go_wp2
                            go_ret
                            exact ⟨by first | rfl | (simp [errW_none, errW_some] <;> rfl) | (simp [*, errW_none, errW_some] <;> rfl), by repeat (first | (with_reducible first | exact HB.out | apply below_alloc | apply pw_below_drewN | apply below_drew1) | exact HB.out)⟩
                          · rw [if_neg c107] at H
                            have c107b0 : (t151 == 8) = false := beq_eq_false_iff_ne.mpr c107
                            have c107b1 : (t151 != 8) = true := bne_iff_ne.mpr c107
                            obtain rfl := Option.some.inj H
                            obtain ⟨Ao109, co109, eo109⟩ := Kd.R_slice HO_10.out
                            subst eo109
                            go_wp2
                            go_ret
                            exact ⟨by first | rfl | (simp [errW_none, errW_some] <;> rfl) | (simp [*, errW_none, errW_some] <;> rfl), by repeat (first | (with_reducible first | exact HB.out | apply below_alloc | apply pw_below_drewN | apply below_drew1) | exact HB.out)⟩
                    · replace c94 := Bool.eq_false_iff.mpr c94
                      subst c94
                      have H1 : (some false) = some r := by rw [if_neg (show ¬ (false = true) by decide)] at H; exact H
                      clear H
                      have H := H1
                      clear H1
                      obtain rfl := Option.some.inj H
                      obtain ⟨Ao110, co110, eo110⟩ := Kd.R_slice HO_10.out
                      subst eo110
                      go_wp2
                      go_ret
                      exact ⟨by first | rfl | (simp [errW_none, errW_some] <;> rfl) | (simp [*, errW_none, errW_some] <;> rfl), by repeat (first | (with_reducible first | exact HB.out | apply below_alloc | apply pw_below_drewN | apply below_drew1) | exact HB.out)⟩
                  · rw [if_neg c93] at H
                    have c93b0 : (t147 == 2) = false := beq_eq_false_iff_ne.mpr c93
                    have c93b1 : (t147 != 2) = true := bne_iff_ne.mpr c93
                    obtain rfl := Option.some.inj H
                    obtain ⟨Ao111, co111, eo111⟩ := Kd.R_slice HO_10.out
                    subst eo111
                    go_wp2
                    go_ret
                    exact ⟨by first | rfl | (simp [errW_none, errW_some] <;> rfl) | (simp [*, errW_none, errW_some] <;> rfl), by repeat (first | (with_reducible first | exact HB.out | apply below_alloc | apply pw_below_drewN | apply below_drew1) | exact HB.out)⟩
                · rw [if_neg c92] at H
                  have c92b0 : ((t146.length : Int) == 0) = false := beq_eq_false_iff_ne.mpr c92
                  have c92b1 : ((t146.length : Int) != 0) = true := bne_iff_ne.mpr c92
                  have c92b2 : ¬ (t146 = []) := fun h_ => c92 (by rw [h_]; rfl)
                  obtain rfl := Option.some.inj H
                  obtain ⟨Ao112, co112, eo112⟩ := Kd.R_slice HO_10.out
                  subst eo112
                  go_wp2
                  go_ret
                  exact ⟨by first | rfl | (simp [errW_none, errW_some] <;> rfl) | (simp [*, errW_none, errW_some] <;> rfl), by repeat (first | (with_reducible first | exact HB.out | apply below_alloc | apply pw_below_drewN | apply below_drew1) | exact HB.out)⟩

/-- THE ONE PURE STATEMENT of quoinlaw07_LeBounds: yours. -/
def quoinlaw07_LeBounds.Pure : Prop := ∀ (a0 : Int) (a1 : Int) (l2 : List Int) (a3 : Int), (Lit.int .i64 a0).wf = true → (Lit.int .i64 a1).wf = true → l2.length ≤ maxLen → l2.length * 1 ≤ 140737488351232 → (∀ x ∈ l2, (Lit.int .u8 x).wf = true) → (Lit.int .i64 a3).wf = true → ∃ k, quoinlaw07_LeBounds.f k a0 a1 l2 a3 = some true
theorem quoinlaw07_LeBounds.walk (P : quoinlaw07_LeBounds.Pure) (a0 : Int) (a1 : Int) (a2 : Option Addr) (len2 cap2 : Nat) (z2 : List Int) (a3 : Int) (w : World) (w0 : (Lit.int .i64 a0).wf = true) (w1 : (Lit.int .i64 a1).wf = true) (w2 : (a2 = none ∧ len2 = 0 ∧ cap2 = 0 ∧ z2 = []) ∨ ∃ x, a2 = some x ∧ len2 ≤ cap2 ∧ cap2 ≤ maxLen ∧ z2.length = cap2 ∧ (∀ i, i < z2.length → w.cell? (x.add i) = some (.int .u8 (z2.getD i 0))) ∧ ∀ n ∈ z2, (Lit.int .u8 n).wf = true) (y2 : len2 * 1 ≤ 140737488351232) (w3 : (Lit.int .i64 a3).wf = true) :
    Calls Try.prog 4 #[.int .i64 a0, .int .i64 a1, .slice a2 len2 cap2, .int .i64 a3] w fun e w' => e = .returned (.bool true) ∧ Below w.heap.size w w' := by
  obtain ⟨l2, rfl, hr2, hm2, hw2, hc2⟩ := ReadsInt.ofRowC w2
  obtain ⟨k, h⟩ := P a0 a1 l2 a3 w0 w1 hm2 y2 hw2 w3
  refine (quoinlaw07_LeBounds.calls k a0 a1 _ _ l2 a3 true w (Kd.C_of_reads (d := (0 : Int)) (h1 := fun _ => rfl) hr2) hc2 h).mono ?_
  rintro e w' ⟨rfl, hd⟩
  exact ⟨rfl, hd⟩

end Go.Proofs.Ytajmhopefhbeoaa.P
