-- Written by pext.py, a program of this session, over the kit's print: a function's contract
import Derived.Test.YtdhkmaiidbomdacPx0
namespace Go.Proofs.Ytdhkmaiidbomdac.P
open Go.RowKit Go.Proofs.YtdhkmaiidbomdacW.PrintWords Go.Proofs.YtdhkmaiidbomdacW.PrintLast Go.Proofs.YtdhkmaiidbomdacW.PrintMore
attribute [local go_sem] max2_int min2_int max_two min_two max_three min_three max_four min_four   -- for this text's walks alone
set_option linter.unusedVariables false
set_option linter.unusedSimpArgs false

/-! ### le_sizes: function 14 -/
def le_sizes.f (a0 : Int) : Option (Bool) := if a0 = 1 then (some true) else (if a0 = 2 then (some true) else (if a0 = 4 then (some true) else (some (a0 == 8))))
set_option maxHeartbeats 8000000 in
set_option maxRecDepth 100000 in
theorem le_sizes.calls (a0 : Int) (r : Bool) (w : World) (h : le_sizes.f a0 = some r) :
  Calls Try.prog 14 #[.int .i64 a0] w fun e w' => e = .returned (.bool r) ∧ Drawn0 w w' := by
 have H : (if a0 = 1 then (some true) else (if a0 = 2 then (some true) else (if a0 = 4 then (some true) else (some (a0 == 8))))) = some r := h
 clear h
 by_cases c2 : a0 = 1
 ·
  rw [if_pos c2] at H
  have c2b0 : (a0 == 1) = true := beq_iff_eq.mpr c2
  have c2b1 : (a0 != 1) = false := bne_eq_false_iff_eq.mpr c2
  clear c2
  obtain rfl := Option.some.inj H
  go_enter Try.func14, Try.ntmps14
  go_wp2
  go_ret
  exact ⟨by first | rfl | (simp; done) | (simp [*]; done), by repeat (first | exact Drawn0.refl _ | apply Drawn0.step)⟩
 ·
  rw [if_neg c2] at H
  have c2b0 : (a0 == 1) = false := beq_eq_false_iff_ne.mpr c2
  have c2b1 : (a0 != 1) = true := bne_iff_ne.mpr c2
  by_cases c3 : a0 = 2
  ·
   rw [if_pos c3] at H
   have c3b0 : (a0 == 2) = true := beq_iff_eq.mpr c3
   have c3b1 : (a0 != 2) = false := bne_eq_false_iff_eq.mpr c3
   clear c3
   obtain rfl := Option.some.inj H
   go_enter Try.func14, Try.ntmps14
   go_wp2
   go_ret
   exact ⟨by first | rfl | (simp; done) | (simp [*]; done), by repeat (first | exact Drawn0.refl _ | apply Drawn0.step)⟩
  ·
   rw [if_neg c3] at H
   have c3b0 : (a0 == 2) = false := beq_eq_false_iff_ne.mpr c3
   have c3b1 : (a0 != 2) = true := bne_iff_ne.mpr c3
   by_cases c4 : a0 = 4
   ·
    rw [if_pos c4] at H
    have c4b0 : (a0 == 4) = true := beq_iff_eq.mpr c4
    have c4b1 : (a0 != 4) = false := bne_eq_false_iff_eq.mpr c4
    clear c4
    obtain rfl := Option.some.inj H
    go_enter Try.func14, Try.ntmps14
    go_wp2
    go_ret
    exact ⟨by first | rfl | (simp; done) | (simp [*]; done), by repeat (first | exact Drawn0.refl _ | apply Drawn0.step)⟩
   ·
    rw [if_neg c4] at H
    have c4b0 : (a0 == 4) = false := beq_eq_false_iff_ne.mpr c4
    have c4b1 : (a0 != 4) = true := bne_iff_ne.mpr c4
    obtain rfl := Option.some.inj H
    go_enter Try.func14, Try.ntmps14
    go_wp2
    go_ret
    exact ⟨by first | rfl | (simp; done) | (simp [*]; done), by repeat (first | exact Drawn0.refl _ | apply Drawn0.step)⟩

/-! ### le_Put: function 10 -/
mutual
def le_Put.j0 : Nat → Int → Int → Bool → Option (List Int × Int)
 | 0, _, _, _ => none
 | k + 1, x0, x1, x25 => if x25 = true then (some (([] : List Int), 2)) else (if 0 ≤ x1 then (if (x1 : Int).toNat ≤ 281474976710656 then ((some (List.replicate (x1 : Int).toNat 0 : List Int)).bind fun y102 => (le_Put.l0 k x0 y102 (y102.length : Int) 0)) else (none)) else (none))
def le_Put.l0 : Nat → Int → List Int → Int → Int → Option (List Int × Int)
 | 0, _, _, _, _ => none
 | k + 1, x0, x6, x29, x30 => if x30 < x29 then (if 0 ≤ (wrap64 (8 * x30)) then (if 0 ≤ x30 then (if x30 < (x6.length : Int) then (le_Put.l0 k x0 (x6.set (x30 : Int).toNat ((shr .u64 (IntKind.u64.wrap (x0)) (wrap64 (8 * x30))) % 256)) x29 (wrap64 (x30 + 1))) else (none)) else (none)) else (none)) else (some (x6, 0))
end
def le_Put.f (k : Nat) (a0 : Int) (a1 : Int) : Option (List Int × Int) := (le_sizes.f a1).bind fun t101 => (if t101 = true then (if a1 < 8 then (if a0 < 0 then (le_Put.j0 k a0 a1 true) else (if 0 ≤ (wrap64 (8 * a1)) then (le_Put.j0 k a0 a1 ((shr .i64 a0 (wrap64 (8 * a1))) != 0)) else (none))) else (le_Put.j0 k a0 a1 false)) else (le_Put.j0 k a0 a1 true))
theorem le_Put.mono_l : ∀ k, (∀ y0 y1 y2, LeO (le_Put.j0 k y0 y1 y2) (le_Put.j0 (k + 1) y0 y1 y2)) ∧ (∀ y0 y1 y2 y3, LeO (le_Put.l0 k y0 y1 y2 y3) (le_Put.l0 (k + 1) y0 y1 y2 y3))
 | 0 => ⟨fun _ _ _ r h => by simp [le_Put.j0] at h, fun _ _ _ _ r h => by simp [le_Put.l0] at h⟩
 | k + 1 => by
  obtain ⟨ih0, ih1⟩ := le_Put.mono_l k
  refine ⟨?_, ?_⟩
  ·
   intro y0 y1 y2
   unfold le_Put.j0
   repeat' first
   | (with_reducible exact ih0 _ _ _)
   | (with_reducible exact ih1 _ _ _ _)
   | (with_reducible exact LeO.refl _)
   | (with_reducible exact LeO.none _)
   | (with_reducible refine LeO.ite ?_ ?_)
   | (with_reducible refine LeO.bind ?_ (fun _ => ?_))
   | exact ih0 _ _ _
   | exact ih1 _ _ _ _
   | exact LeO.none _
   | refine LeO.ite ?_ ?_
   | refine LeO.bind ?_ (fun _ => ?_)
  ·
   intro y0 y1 y2 y3
   unfold le_Put.l0
   repeat' first
   | (with_reducible exact ih0 _ _ _)
   | (with_reducible exact ih1 _ _ _ _)
   | (with_reducible exact LeO.refl _)
   | (with_reducible exact LeO.none _)
   | (with_reducible refine LeO.ite ?_ ?_)
   | (with_reducible refine LeO.bind ?_ (fun _ => ?_))
   | exact ih0 _ _ _
   | exact ih1 _ _ _ _
   | exact LeO.none _
   | refine LeO.ite ?_ ?_
   | refine LeO.bind ?_ (fun _ => ?_)
theorem le_Put.mono : ∀ a0 a1 k, LeO (le_Put.f k a0 a1) (le_Put.f (k + 1) a0 a1) := by
 intro a0 a1 k
 obtain ⟨ih0, ih1⟩ := le_Put.mono_l k
 unfold le_Put.f
 repeat' first
   | (with_reducible exact ih0 _ _ _)
   | (with_reducible exact ih1 _ _ _ _)
   | (with_reducible exact LeO.refl _)
   | (with_reducible exact LeO.none _)
   | (with_reducible refine LeO.ite ?_ ?_)
   | (with_reducible refine LeO.bind ?_ (fun _ => ?_))
   | exact ih0 _ _ _
   | exact ih1 _ _ _ _
   | exact LeO.none _
   | refine LeO.ite ?_ ?_
   | refine LeO.bind ?_ (fun _ => ?_)
set_option maxHeartbeats 8000000 in
set_option maxRecDepth 100000 in
theorem le_Put.calls (k : Nat) (a0 : Int) (a1 : Int) (r1 : List Int) (r2 : Int) (w : World) (h : le_Put.f k a0 a1 = some (r1, r2)) :
  Calls Try.prog 10 #[.int .i64 a0, .int .i64 a1] w fun e w' => ∃ v0_ : Value, e = .returned (.tuple #[v0_, .int .i64 r2]) ∧ Kd.R (Kd.int .u8) 5 w' w.heap.size (fun _ => True) v0_ r1 ∧ Below w.heap.size w w' := by
 have HB := Aside0.mk (Below.refl w.heap.size w)
 have H : ((le_sizes.f a1).bind fun t101 => (if t101 = true then (if a1 < 8 then (if a0 < 0 then (le_Put.j0 k a0 a1 true) else (if 0 ≤ (wrap64 (8 * a1)) then (le_Put.j0 k a0 a1 ((shr .i64 a0 (wrap64 (8 * a1))) != 0)) else (none))) else (le_Put.j0 k a0 a1 false)) else (le_Put.j0 k a0 a1 true))) = some (r1, r2) := h
 clear h
 have HC3 := Aside0.mk H
 clear H
 go_enter Try.func10, Try.ntmps10
 go_upto_region 1 with (fail)
 go_cut [25] (fun v25 wc => ∃ (kq : Nat) (x25_2 : Bool), v25 = .bool x25_2 ∧ Aside0 (le_Put.j0 kq a0 a1 x25_2 = some (r1, r2)) ∧ Aside0 (kq ≤ k) ∧ Aside0 (Below w.heap.size w wc))
 case first =>
  have H := HC3.out
  clear HC3
  replace H := Option.bind_eq_some_iff.mp H
  obtain ⟨t101, A40, H⟩ := H
  replace H : (if t101 = true then (if a1 < 8 then (if a0 < 0 then (le_Put.j0 k a0 a1 true) else (if 0 ≤ (wrap64 (8 * a1)) then (le_Put.j0 k a0 a1 ((shr .i64 a0 (wrap64 (8 * a1))) != 0)) else (none))) else (le_Put.j0 k a0 a1 false)) else (le_Put.j0 k a0 a1 true)) = some (r1, r2) := H
  have A4 := Aside0.mk A40
  clear A40
  by_cases c5 : t101 = true
  ·
   subst c5
   have H1 : (if a1 < 8 then (if a0 < 0 then (le_Put.j0 k a0 a1 true) else (if 0 ≤ (wrap64 (8 * a1)) then (le_Put.j0 k a0 a1 ((shr .i64 a0 (wrap64 (8 * a1))) != 0)) else (none))) else (le_Put.j0 k a0 a1 false)) = some (r1, r2) := by rw [if_pos rfl] at H; exact H
   clear H
   have H := H1
   clear H1
   by_cases c6 : a1 < 8
   ·
    rw [if_pos c6] at H
    have c6b0 : decide (a1 < 8) = true := decide_eq_true c6
    clear c6
    (first | rw [c6b0] | (simp only [i64_w, i32_w]; rw [c6b0]) | skip)
    by_cases c7 : a0 < 0
    ·
     rw [if_pos c7] at H
     have c7b0 : decide (a0 < 0) = true := decide_eq_true c7
     clear c7
     have H' := Aside0.mk H
     clear H
     go_wp2_with (first | ((with_reducible refine gate_callee (f := 14) rfl ?_); refine goesL_ (some 9) rfl rfl Try.func14 (by kernel_rfl) rfl #[.int .i64 a1] rfl (by (try simp only [List.map_toArray, List.map_cons, List.map_nil]); first | done | rfl | (simp only [List.length_drop, List.length_take]; rfl)) ?_; (with_reducible refine (le_sizes.calls a1 true _ A4.out).mono ?_); rintro e w' ⟨rfl, ⟨nd, rfl⟩⟩; refine ⟨_, rfl, ?_⟩))
     go_meet
     case rel => exact ⟨_, (true), (by first | rfl | (simp; done) | (simp [*]; done)), H', ⟨by first | omega | exact Nat.le_refl _⟩, ⟨by repeat (first | (with_reducible first | exact HB.out | apply below_alloc | apply pw_below_drewN | apply below_drew1) | exact HB.out)⟩⟩
    ·
     rw [if_neg c7] at H
     have c7b0 : decide (a0 < 0) = false := decide_eq_false c7
     clear c7
     obtain ⟨ji8, hji8⟩ : ∃ j_ : Int, (wrap64 (8 * a1)) = j_ := ⟨_, rfl⟩
     replace H : (if 0 ≤ (ji8) then (le_Put.j0 k a0 a1 ((shr .i64 a0 (ji8)) != 0)) else (none)) = some (r1, r2) := by first | (rw [hji8] at H; exact H) | (simp only [hji8] at H ⊢; exact H)
     (try rw [hji8] at A4)
     have hji8w : (IntKind.i64.wrap (8 * a1)) = ji8 := (i64_w _).trans hji8
     by_cases c9 : 0 ≤ (ji8)
     ·
      rw [if_pos c9] at H
      have c9b0 := eq_true c9
      have c9b1 : decide (0 ≤ (ji8)) = true := decide_eq_true c9
      clear c9
      obtain ⟨ji10, hji10⟩ : ∃ j_ : Int, (shr .i64 a0 (ji8)) = j_ := ⟨_, rfl⟩
      replace H : (le_Put.j0 k a0 a1 ((ji10) != 0)) = some (r1, r2) := by first | (rw [hji10] at H; exact H) | (simp only [hji10] at H ⊢; exact H)
      (try rw [hji10] at A4)
      have hji10_ : (a0 / 2 ^ min (ji8).toNat 64) = ji10 := hji10
      have hji10z : (ji8) ≤ 64 → (a0 / 2 ^ (ji8).toNat) = ji10 := shr_small hji10
      have H' := Aside0.mk H
      clear H
      go_wp2_with (first | ((with_reducible refine gate_callee (f := 14) rfl ?_); refine goesL_ (some 9) rfl rfl Try.func14 (by kernel_rfl) rfl #[.int .i64 a1] rfl (by (try simp only [List.map_toArray, List.map_cons, List.map_nil]); first | done | rfl | (simp only [List.length_drop, List.length_take]; rfl)) ?_; (with_reducible refine (le_sizes.calls a1 true _ A4.out).mono ?_); rintro e w' ⟨rfl, ⟨nd, rfl⟩⟩; refine ⟨_, rfl, ?_⟩))
      go_meet
      case rel => exact ⟨_, (((ji10) != 0)), (by first | rfl | (simp; done) | (simp only [← hji10] <;> (first | rfl | simp)) | (simp [*]; done)), H', ⟨by first | omega | exact Nat.le_refl _⟩, ⟨by repeat (first | (with_reducible first | exact HB.out | apply below_alloc | apply pw_below_drewN | apply below_drew1) | exact HB.out)⟩⟩
     ·
      rw [if_neg c9] at H
      exact absurd H (by simp)
   ·
    rw [if_neg c6] at H
    have c6b0 : decide (a1 < 8) = false := decide_eq_false c6
    clear c6
    (first | rw [c6b0] | (simp only [i64_w, i32_w]; rw [c6b0]) | skip)
    have H' := Aside0.mk H
    clear H
    go_wp2_with (first | ((with_reducible refine gate_callee (f := 14) rfl ?_); refine goesL_ (some 9) rfl rfl Try.func14 (by kernel_rfl) rfl #[.int .i64 a1] rfl (by (try simp only [List.map_toArray, List.map_cons, List.map_nil]); first | done | rfl | (simp only [List.length_drop, List.length_take]; rfl)) ?_; (with_reducible refine (le_sizes.calls a1 true _ A4.out).mono ?_); rintro e w' ⟨rfl, ⟨nd, rfl⟩⟩; refine ⟨_, rfl, ?_⟩))
    go_meet
    case rel => exact ⟨_, (false), (by first | rfl | (simp; done) | (simp [*]; done)), H', ⟨by first | omega | exact Nat.le_refl _⟩, ⟨by repeat (first | (with_reducible first | exact HB.out | apply below_alloc | apply pw_below_drewN | apply below_drew1) | exact HB.out)⟩⟩
  ·
   replace c5 := Bool.eq_false_iff.mpr c5
   subst c5
   have H1 : (le_Put.j0 k a0 a1 true) = some (r1, r2) := by rw [if_neg (show ¬ (false = true) by decide)] at H; exact H
   clear H
   have H := H1
   clear H1
   have H' := Aside0.mk H
   clear H
   go_wp2_with (first | ((with_reducible refine gate_callee (f := 14) rfl ?_); refine goesL_ (some 9) rfl rfl Try.func14 (by kernel_rfl) rfl #[.int .i64 a1] rfl (by (try simp only [List.map_toArray, List.map_cons, List.map_nil]); first | done | rfl | (simp only [List.length_drop, List.length_take]; rfl)) ?_; (with_reducible refine (le_sizes.calls a1 false _ A4.out).mono ?_); rintro e w' ⟨rfl, ⟨nd, rfl⟩⟩; refine ⟨_, rfl, ?_⟩))
   go_meet
   case rel => exact ⟨_, (true), (by first | rfl | (simp; done) | (simp [*]; done)), H', ⟨by first | omega | exact Nat.le_refl _⟩, ⟨by repeat (first | (with_reducible first | exact HB.out | apply below_alloc | apply pw_below_drewN | apply below_drew1) | exact HB.out)⟩⟩
 case rest =>
  clear HC3
  try clear c1
  try clear p2
  try clear c5
  try clear c6
  try clear c6b0
  try clear p6
  try clear c7
  try clear c7b0
  try clear c9
  try clear c9b0
  try clear c9b1
  try clear c10
  obtain ⟨kq, x25_2, rfl, HA, HJ2, HB⟩ := hcut
  cases kq with
  | zero => exact absurd HA.out (by simp [le_Put.j0])
  | succ kj2 =>
   have H := HA.out
   clear HA
   simp only [le_Put.j0] at H
   by_cases c11 : x25_2 = true
   ·
    subst c11
    have H1 : (some (([] : List Int), 2)) = some (r1, r2) := by rw [if_pos rfl] at H; exact H
    clear H
    have H := H1
    clear H1
    simp only [Option.some.injEq, Prod.mk.injEq] at H
    obtain ⟨rfl, rfl⟩ := H
    go_wp2
    go_ret2
    exact ⟨_, by first | rfl | (simp [errW_none, errW_some] <;> rfl) | (simp [*, errW_none, errW_some] <;> rfl), by first | exact Kd.R_nil _ _ _ _ _ | exact Kd.N_nil _ _ _ _ _ | exact Kd.V_nil _ _ _ _ _ | exact Kd.Q_nil _ _ _ _ _ | exact Kd.S_nil _ _ _ _ _, by repeat (first | (with_reducible first | exact HB.out | apply below_alloc | apply pw_below_drewN | apply below_drew1) | exact HB.out)⟩
   ·
    replace c11 := Bool.eq_false_iff.mpr c11
    subst c11
    have H1 : (if 0 ≤ a1 then (if (a1 : Int).toNat ≤ 281474976710656 then ((some (List.replicate (a1 : Int).toNat 0 : List Int)).bind fun y102 => (le_Put.l0 kj2 a0 y102 (y102.length : Int) 0)) else (none)) else (none)) = some (r1, r2) := by rw [if_neg (show ¬ (false = true) by decide)] at H; exact H
    clear H
    have H := H1
    clear H1
    by_cases c12 : 0 ≤ a1
    ·
     rw [if_pos c12] at H
     have c12b0 := eq_true c12
     have c12b1 : decide (0 ≤ a1) = true := decide_eq_true c12
     clear c12
     by_cases c13 : (a1 : Int).toNat ≤ 281474976710656
     ·
      rw [if_pos c13] at H
      have c13b0 := eq_true c13
      have c13b1 : decide ((a1 : Int).toNat ≤ 281474976710656) = true := decide_eq_true c13
      clear c13
      obtain ⟨y102, hy102⟩ : ∃ y_ : List Int, y_ = (List.replicate (a1 : Int).toNat 0) := ⟨_, rfl⟩
      replace H : (le_Put.l0 kj2 a0 y102 (y102.length : Int) 0) = some (r1, r2) := by first | (rw [hy102]; with_reducible exact H) | (have H2_ := (Option.bind_some _ _).symm.trans H; rw [hy102]; with_reducible exact H2_) | (have H2_ := (Option.bind_some _ _).symm.trans H; with_reducible exact H2_) | with_reducible exact H | (rw [hy102]; exact H) | exact H
      have Ny102 := Aside0.mk hy102
      clear hy102
      have H' := Aside0.mk H
      clear H
      go_wp2_with (first | ((with_reducible refine gate_dst (N := 27) rfl ?_); refine Kd.R_make (Kd.int .u8) _ 5 rfl (N := 27) rfl 22 _ _ rfl a1 rfl rfl Try.underlying22 (.int .u8 0) 1 info5 rfl (by decide) (by omega) 0 (ok := fun _ => True) (okp := fun _ => True) rfl (fun _ hk => hk) trivial (of_decide_eq_true (by first | (with_reducible assumption) | assumption)) (Nat.le_trans (Nat.mul_le_mul_right _ (of_decide_eq_true (by first | (with_reducible assumption) | assumption) : a1.toNat ≤ 281474976710656)) (by omega)) (Below.refl _ _) (Nat.le_refl _) ?_; intro v103 w14 ho15 hb hg_ hnew_; clear hg_ hnew_; (first | rw [← Ny102.out] at ho15 | (simp only [Int.reduceToNat] at ho15; rw [← Ny102.out] at ho15)); have n0_ := Aside0.mk (Kd.R_lower ho15 (below_size (by repeat (first | (with_reducible first | exact HB.out | apply below_alloc | apply pw_below_drewN | apply below_drew1) | exact HB.out)))); have n1_ := Aside0.mk (below_step (by repeat (first | (with_reducible first | exact HB.out | apply below_alloc | apply pw_below_drewN | apply below_drew1) | exact HB.out)) hb); clear HB; have HO104 := n0_; have HB := n1_; clear n0_ n1_; clear hb ho15; obtain ⟨Ao16, co16, eo16⟩ := Kd.R_slice HO104.out; subst eo16))
      go_loopg [30] kj2 (fun kq v30 w' => ∃ (x6_2 : List Int) (x30_2 : Int), v30 = .int .i64 x30_2 ∧ Aside0 (le_Put.l0 kq a0 x6_2 (y102.length : Int) x30_2 = some (r1, r2)) ∧ Aside0 (kq ≤ kj2) ∧ Aside0 (Kd.R (Kd.int .u8) 5 w' w.heap.size (fun _ => True) (.slice Ao16 y102.length co16) x6_2) ∧ Aside0 (Below w.heap.size w w'))
      case atStart => exact ⟨(y102), (0), (by first | rfl | (simp; done) | (simp [*]; done)), H', ⟨Nat.le_refl _⟩, ⟨by (with_reducible repeat (first | apply Kd.R_alloc | apply Kd.R_drewN | apply Kd.R_drew)); exact HO104.out⟩, ⟨by repeat (first | (with_reducible first | exact HB.out | apply below_alloc | apply pw_below_drewN | apply below_drew1) | exact HB.out)⟩⟩
      case round =>
       clear H'
       try clear c1
       try clear p2
       try clear c5
       try clear c6
       try clear c6b0
       try clear p6
       try clear c7
       try clear c7b0
       try clear c9
       try clear c9b0
       try clear c9b1
       try clear c10
       try clear c11
       try clear c12
       try clear c12b0
       try clear c12b1
       try clear c13
       try clear c13b0
       try clear c13b1
       try clear c14
       try clear p2
       try clear p6
       obtain ⟨x6_2, x30_2, rfl, HA, HK2, HO_6, HB⟩ := hrel
       have hl6_2 := (Kd.R_reads' HO_6.out).1
       rw [hl6_2] at HO_6
       (try simp only [hl6_2])
       cases gk with
       | zero => exact absurd HA.out (by simp [le_Put.l0])
       | succ k2 =>
        have H := HA.out
        clear HA
        simp only [le_Put.l0] at H
        by_cases c17 : x30_2 < (y102.length : Int)
        ·
         rw [if_pos c17] at H
         have c17b0 : decide (x30_2 < (y102.length : Int)) = true := decide_eq_true c17
         (try (have c17b0_ := c17b0; rw [hl6_2] at c17b0_))
         clear c17
         obtain ⟨ji18, hji18⟩ : ∃ j_ : Int, (wrap64 (8 * x30_2)) = j_ := ⟨_, rfl⟩
         replace H : (if 0 ≤ (ji18) then (if 0 ≤ x30_2 then (if x30_2 < (x6_2.length : Int) then (le_Put.l0 k2 a0 (x6_2.set (x30_2 : Int).toNat ((shr .u64 (IntKind.u64.wrap (a0)) (ji18)) % 256)) (y102.length : Int) (wrap64 (x30_2 + 1))) else (none)) else (none)) else (none)) = some (r1, r2) := by first | (rw [hji18] at H; exact H) | (simp only [hji18] at H ⊢; exact H)
         have hji18w : (IntKind.i64.wrap (8 * x30_2)) = ji18 := (i64_w _).trans hji18
         by_cases c19 : 0 ≤ (ji18)
         ·
          rw [if_pos c19] at H
          have c19b0 := eq_true c19
          have c19b1 : decide (0 ≤ (ji18)) = true := decide_eq_true c19
          clear c19
          obtain ⟨ji20, hji20⟩ : ∃ j_ : Int, (shr .u64 (IntKind.u64.wrap (a0)) (ji18)) = j_ := ⟨_, rfl⟩
          replace H : (if 0 ≤ x30_2 then (if x30_2 < (x6_2.length : Int) then (le_Put.l0 k2 a0 (x6_2.set (x30_2 : Int).toNat ((ji20) % 256)) (y102.length : Int) (wrap64 (x30_2 + 1))) else (none)) else (none)) = some (r1, r2) := by first | (rw [hji20] at H; exact H) | (simp only [hji20] at H ⊢; exact H)
          have hji20_ : ((IntKind.u64.wrap (a0)) / 2 ^ min (ji18).toNat 64) = ji20 := hji20
          have hji20z : (ji18) ≤ 64 → ((IntKind.u64.wrap (a0)) / 2 ^ (ji18).toNat) = ji20 := shr_small hji20
          by_cases c21 : 0 ≤ x30_2
          ·
           rw [if_pos c21] at H
           have c21b0 : decide (0 ≤ x30_2) = true := decide_eq_true c21
           (try (have c21b0_ := c21b0; rw [hl6_2] at c21b0_))
           clear c21
           by_cases c22 : x30_2 < (x6_2.length : Int)
           ·
            rw [if_pos c22] at H
            have c22b0 : decide (x30_2 < (x6_2.length : Int)) = true := decide_eq_true c22
            (try (have c22b0_ := c22b0; rw [hl6_2] at c22b0_))
            clear c22
            obtain ⟨y105, hy105⟩ : ∃ y_ : List Int, y_ = (x6_2.set (x30_2 : Int).toNat ((ji20) % 256)) := ⟨_, rfl⟩
            replace H : (le_Put.l0 k2 a0 y105 (y102.length : Int) (wrap64 (x30_2 + 1))) = some (r1, r2) := by first | (rw [hy105]; with_reducible exact H) | (have H2_ := (Option.bind_some _ _).symm.trans H; rw [hy105]; with_reducible exact H2_) | (have H2_ := (Option.bind_some _ _).symm.trans H; with_reducible exact H2_) | with_reducible exact H | (rw [hy105]; exact H) | exact H
            have Ny105 := Aside0.mk hy105
            clear hy105
            have H' := Aside0.mk H
            clear H
            have p23 : 0 ≤ (x30_2 : Int) := of_decide_eq_true (by first | (with_reducible assumption) | assumption)
            have q23 : (x30_2 : Int) < ((x6_2.length : Int) : Int) := of_decide_eq_true (by first | (with_reducible assumption) | assumption)
            obtain ⟨go23, co23, eo23, gb23, gl23, cl23, HG23⟩ := Kd.R_form HO_6.out (by omega)
            (first | cases eo23 | (injection eo23 with ea_ en_ ec_; (first | subst ea_ | (injection ea_ with ea_; subst ea_)); subst ec_; clear en_))
            have GB23 := Aside0.mk gb23
            have GG23 := Aside0.mk HG23
            clear gb23 gl23 HG23
            obtain ⟨hx23_0, hf23_0⟩ := Kd.R_celln 0 HO_6.out (x30_2 : Int) p23 q23
            replace p23 := eq_true p23
            replace q23 := eq_true q23
            have HP24 := Kd.R_putg HO_6.out (x30_2 : Int) ((ji20) % 256)
            go_wp2_with (first | ((with_reducible refine gate_store (t := 5) (p := 41) rfl ?_); refine store_event (t := 5) (p := 41) (v := ?vo_w25) (w1 := (wr.setCell ⟨go23, (x30_2 : Int).toNat, none⟩ (.int .u8 ((ji20) % 256)))) ?hg ?ho ?hn ?hr ?_; (case ho => rfl); (case hg => rfl); (case hn => rfl); (case hr => first | (go_simp; done) | (go_simp; rfl)); intro w25 hw; have hg : wr.grownBy w25 (some go23) := (by rw [hw]; exact HP24.2); have hp_ : Kd.R (Kd.int .u8) 5 w25 w.heap.size (fun _ => True) (.slice (some ⟨go23, 0, none⟩) x6_2.length co16) y105 := (by rw [hw, Ny105.out]; exact HP24.1); clear HP24; have n0_ := Aside0.mk (hp_); have n1_ := Aside0.mk ((by rw [hw]; exact below_set (HB.out) GB23.out : Below w.heap.size w w25)); clear HO_6; clear HB; have HO_6 := n0_; have HB := n1_; clear n0_ n1_; clear hg hw hp_))
            (try simp only [← hl6_2])
            go_roundg k2
            case measure => have := HJ2.out; have := HK2.out; omega
            case rel => exact ⟨(y105), (wrap64 (x30_2 + 1)), (by first | rfl | (simp; done) | (simp [*]; done)), H', ⟨by have := HJ2.out; have := HK2.out; omega⟩, ⟨by (try simp only [hl6_2]); (with_reducible repeat (first | apply Kd.R_alloc | apply Kd.R_drewN | apply Kd.R_drew)); exact HO_6.out⟩, ⟨by repeat (first | (with_reducible first | exact HB.out | apply below_alloc | apply pw_below_drewN | apply below_drew1) | exact HB.out)⟩⟩
           ·
            rw [if_neg c22] at H
            exact absurd H (by simp)
          ·
           rw [if_neg c21] at H
           exact absurd H (by simp)
         ·
          rw [if_neg c19] at H
          exact absurd H (by simp)
        ·
         rw [if_neg c17] at H
         have c17b0 : decide (x30_2 < (y102.length : Int)) = false := decide_eq_false c17
         (try (have c17b0_ := c17b0; rw [hl6_2] at c17b0_))
         clear c17
         simp only [Option.some.injEq, Prod.mk.injEq] at H
         obtain ⟨rfl, rfl⟩ := H
         go_wp2
         go_ret2
         exact ⟨_, by first | rfl | (simp [errW_none, errW_some] <;> rfl) | (simp [*, errW_none, errW_some] <;> rfl), by (with_reducible repeat (first | apply Kd.R_alloc | apply Kd.R_drewN | apply Kd.R_drew)); exact HO_6.out, by repeat (first | (with_reducible first | exact HB.out | apply below_alloc | apply pw_below_drewN | apply below_drew1) | exact HB.out)⟩
     ·
      rw [if_neg c13] at H
      exact absurd H (by simp)
    ·
     rw [if_neg c12] at H
     exact absurd H (by simp)


/-! ### sect_Write: function 7 -/
abbrev sect_Write.headCells (h0 h1 h2 h3 h4 h5 h6 h7 h8 h9 : Int) : Array Value := #[.int .i64 h0, .int .i64 h1, .int .i64 h2, .int .i64 h3, .int .i64 h4, .int .i64 h5, .int .i64 h6, .int .i64 h7, .int .i64 h8, .int .i64 h9]
abbrev sect_Write.fieldCells (g : Nat) : Array Value := #[.pointer (some ⟨g, 0, none⟩), .int .i64 4, .pointer (some ⟨g, 1, none⟩), .int .i64 4, .pointer (some ⟨g, 2, none⟩), .int .i64 8, .pointer (some ⟨g, 3, none⟩), .int .i64 8, .pointer (some ⟨g, 4, none⟩), .int .i64 8, .pointer (some ⟨g, 5, none⟩), .int .i64 8, .pointer (some ⟨g, 6, none⟩), .int .i64 4, .pointer (some ⟨g, 7, none⟩), .int .i64 4, .pointer (some ⟨g, 8, none⟩), .int .i64 8, .pointer (some ⟨g, 9, none⟩), .int .i64 8]
set_option maxHeartbeats 4000000 in
set_option maxRecDepth 1000000 in
theorem sect_Write.fields_calls (g : Nat) (w : World) : Calls Try.prog 9 #[.pointer (some ⟨g, 0, none⟩)] w fun e w' =>
    e = .returned (.slice (some ⟨w.heap.size, 0, none⟩) 10 10) ∧ w' = w.drew.alloc (.cells (sect_Write.fieldCells g) 41) := by
  go_enter Try.func9, Try.ntmps9
  go_wp2
  go_still_tail 40, (by kernel_rfl)
  change wpList _ _ _ _ _ w.drew
  go_wp2
  go_ret
  exact ⟨rfl, rfl⟩
def sect_Write.go (k : Nat) : List (Int × Int) → List Int → Option (List Int × Int)
  | [], acc => some (acc, 0)
  | p :: l, acc => (le_Put.f k p.1 p.2).bind fun q => if q.2 = 0 then (if p.1 < 0 then some ([], 2) else if acc.length + q.1.length < 140737488355328 then sect_Write.go k l (acc ++ q.1) else none) else some ([], 2)
theorem sect_Write.go_mono (k : Nat) : ∀ (l : List (Int × Int)) (acc : List Int), LeO (sect_Write.go k l acc) (sect_Write.go (k + 1) l acc)
  | [], _ => LeO.refl _
  | p :: l, acc => by
    unfold sect_Write.go
    refine LeO.bind (le_Put.mono _ _ _) (fun q => ?_)
    by_cases h : q.2 = 0
    · rw [if_pos h, if_pos h]
      by_cases h2 : p.1 < 0
      · rw [if_pos h2, if_pos h2]; exact LeO.refl _
      · rw [if_neg h2, if_neg h2]
        by_cases h3 : acc.length + q.1.length < 140737488355328
        · rw [if_pos h3, if_pos h3]; exact sect_Write.go_mono k l _
        · rw [if_neg h3, if_neg h3]; exact LeO.refl _
    · rw [if_neg h, if_neg h]; exact LeO.refl _
def sect_Write.f (k : Nat) (h0 h1 h2 h3 h4 h5 h6 h7 h8 h9 : Int) : Option (List Int × Int) := sect_Write.go k [(h0, 4), (h1, 4), (h2, 8), (h3, 8), (h4, 8), (h5, 8), (h6, 4), (h7, 4), (h8, 8), (h9, 8)] []
theorem sect_Write.mono (h0 h1 h2 h3 h4 h5 h6 h7 h8 h9 : Int) (k : Nat) : LeO (sect_Write.f k h0 h1 h2 h3 h4 h5 h6 h7 h8 h9) (sect_Write.f (k + 1) h0 h1 h2 h3 h4 h5 h6 h7 h8 h9) := sect_Write.go_mono k _ _
set_option maxHeartbeats 4000000 in
set_option maxRecDepth 1000000 in
theorem sect_Write.calls (k : Nat) (h0 h1 h2 h3 h4 h5 h6 h7 h8 h9 : Int) (r1 : List Int) (r2 : Int) (w : World) (H : sect_Write.f k h0 h1 h2 h3 h4 h5 h6 h7 h8 h9 = some (r1, r2)) :
    Calls Try.prog 7 #[.agg (sect_Write.headCells h0 h1 h2 h3 h4 h5 h6 h7 h8 h9)] w fun e w' => ∃ v0_ : Value, e = .returned (.tuple #[v0_, .int .i64 r2]) ∧ Kd.R (Kd.int .u8) 5 w' w.heap.size (fun _ => True) v0_ r1 ∧ Below w.heap.size w w' := by
  unfold sect_Write.f at H
  go_enter Try.func7, Try.ntmps7
  go_wp2_with (go_at_call 9; refine (sect_Write.fields_calls _ _).mono ?_; rintro e W' ⟨rfl, rfl⟩)
  go_outline
  go_loopg [2, 10] 11 (fun gf v i wr => ∃ (j : Nat) (acc : List Int), j + gf = 11 ∧ j ≤ 10 ∧ i = .int .i64 j ∧ Kd.R (Kd.int .u8) 5 wr w.heap.size (fun _ => True) v acc ∧ sect_Write.go k (([(h0, 4), (h1, 4), (h2, 8), (h3, 8), (h4, 8), (h5, 8), (h6, 4), (h7, 4), (h8, 8), (h9, 8)] : List (Int × Int)).drop j) acc = some (r1, r2)
    ∧ wr.heap[w.heap.size]? = some (.cells (sect_Write.headCells h0 h1 h2 h3 h4 h5 h6 h7 h8 h9) 26 (0, 0)) ∧ wr.heap[w.heap.size + 1]? = some (.cells (sect_Write.fieldCells w.heap.size) 41 (0, 0)) ∧ Below w.heap.size w wr)
  case atStart =>
    exact ⟨0, [], rfl, by omega, rfl, Kd.R_nil _ _ _ _ _, H, blk_drew (blk_alloc (blk_new w _) _), by rw [show w.heap.size + 1 = (w.alloc (.cells (sect_Write.headCells h0 h1 h2 h3 h4 h5 h6 h7 h8 h9) 26)).heap.size by simp]; exact blk_drew (blk_new (w.alloc _) _), below_drew1 (below_alloc (below_alloc (Below.refl _ _) _) _)⟩
  case round =>
    obtain ⟨j, acc, hj, hj10, rfl, hR, HA, hb0, hb1, hB⟩ := hrel
    by_cases hlt : j < 10
    · obtain ⟨n, s, rest, hdrop, hc0, hc1, hc2⟩ : ∃ (n s : Int) (rest : List (Int × Int)), ([(h0, 4), (h1, 4), (h2, 8), (h3, 8), (h4, 8), (h5, 8), (h6, 4), (h7, 4), (h8, 8), (h9, 8)] : List (Int × Int)).drop j = (n, s) :: rest ∧ wr.cell? ⟨w.heap.size + 1, j * 2, none⟩ = some (.pointer (some ⟨w.heap.size, j, none⟩)) ∧
          wr.cell? ⟨w.heap.size + 1, j * 2 + 1, none⟩ = some (.int .i64 s) ∧ wr.cell? ⟨w.heap.size, j, none⟩ = some (.int .i64 n) := by
        rcases (show j = 0 ∨ j = 1 ∨ j = 2 ∨ j = 3 ∨ j = 4 ∨ j = 5 ∨ j = 6 ∨ j = 7 ∨ j = 8 ∨ j = 9 by omega) with rfl | rfl | rfl | rfl | rfl | rfl | rfl | rfl | rfl | rfl <;>
          exact ⟨_, _, _, rfl, (blk_cell hb1 _).trans rfl, (blk_cell hb1 _).trans rfl, (blk_cell hb0 _).trans rfl⟩
      have hrest : ([(h0, 4), (h1, 4), (h2, 8), (h3, 8), (h4, 8), (h5, 8), (h6, 4), (h7, 4), (h8, 8), (h9, 8)] : List (Int × Int)).drop (j + 1) = rest := by rw [← List.drop_drop, hdrop]; rfl
      rw [hdrop] at HA
      have hlen := blk_lt hb1
      have HA' := Aside0.mk HA
      have HR := Aside0.mk hR
      have HB0 := Aside0.mk hb0
      have HB1 := Aside0.mk hb1
      have HBB := Aside0.mk hB
      have HD := Aside0.mk hrest
      clear HA hR hb0 hb1 hB hdrop hrest
      go_wp2
      have HA := HA'.out
      have hR := HR.out
      have hb0 := HB0.out
      have hb1 := HB1.out
      have hB := HBB.out
      simp only [sect_Write.go] at HA
      obtain ⟨⟨q1, q2⟩, HP0, HQ⟩ := Option.bind_eq_some_iff.mp HA
      have HP := Aside0.mk HP0
      have HQ' := HQ; clear HQ
      have HQ := Aside0.mk HQ'; clear HQ'
      have hlF : w.heap.size < wr.heap.size := by omega
      have fc0 : (wr.alloc (.cells #[.pointer (some ⟨w.heap.size, j, none⟩), .int .i64 s] 41)).cell? ⟨wr.heap.size, 0, none⟩ = some (.pointer (some ⟨w.heap.size, j, none⟩)) := (cell_of_row _ wr.heap.size 0 _ 41 (0, 0) (heap_alloc_new wr _)).trans rfl
      have fc1 : (wr.alloc (.cells #[.pointer (some ⟨w.heap.size, j, none⟩), .int .i64 s] 41)).cell? ⟨wr.heap.size, 1, none⟩ = some (.int .i64 s) := (cell_of_row _ wr.heap.size 1 _ 41 (0, 0) (heap_alloc_new wr _)).trans rfl
      have fc2 : (wr.alloc (.cells #[.pointer (some ⟨w.heap.size, j, none⟩), .int .i64 s] 41)).cell? ⟨w.heap.size, j, none⟩ = some (.int .i64 n) := (World.cell?_alloc_lt _ _ _ hlF).trans hc2
      have gR := Kd.R_alloc hR (.cells #[.pointer (some ⟨w.heap.size, j, none⟩), .int .i64 s] 41)
      have gb0 := blk_alloc hb0 (.cells #[.pointer (some ⟨w.heap.size, j, none⟩), .int .i64 s] 41)
      have gb1 := blk_alloc hb1 (.cells #[.pointer (some ⟨w.heap.size, j, none⟩), .int .i64 s] 41)
      have gB := below_alloc hB (.cells #[.pointer (some ⟨w.heap.size, j, none⟩), .int .i64 s] 41)
      have gF : wr.heap.size < (wr.alloc (.cells #[.pointer (some ⟨w.heap.size, j, none⟩), .int .i64 s] 41)).heap.size := by simp
      clear HA HP0 hR hb0 hb1 hB HR HB0 HB1 HBB HA' hc0 hc1 hc2
      obtain ⟨W, hW⟩ : ∃ W, wr.alloc (.cells #[.pointer (some ⟨w.heap.size, j, none⟩), .int .i64 s] 41) = W := ⟨_, rfl⟩
      rw [hW] at fc0 fc1 fc2 gR gb0 gb1 gB gF
      rw [hW]
      clear hW
      obtain ⟨F, hF⟩ : ∃ F, wr.heap.size = F := ⟨_, rfl⟩
      rw [hF] at fc0 fc1 hlF gF
      rw [hF]
      clear hF
      have HR := Aside0.mk gR
      have HB0 := Aside0.mk gb0
      have HB1 := Aside0.mk gb1
      have HBB := Aside0.mk gB
      clear gR gb0 gb1 gB
      go_region_held3 (fun w' => w'.cell? ⟨F, 0, none⟩ = some (.pointer (some ⟨w.heap.size, j, none⟩)) ∧ w'.cell? ⟨F, 1, none⟩ = some (.int .i64 s) ∧ w'.cell? ⟨w.heap.size, j, none⟩ = some (.int .i64 n))
        (first | go_keep | exact ⟨pw_cell_below hb5 (by assumption), pw_cell_below hb5 (by assumption), pw_cell_below hb5 (by assumption)⟩ | exact ⟨pw_cell_below hb5 (by simp [*]), pw_cell_below hb5 (by simp [*]), pw_cell_below hb5 (by simp [*])⟩)
        (first | (go_at_call 10; (with_reducible refine (le_Put.calls k n s q1 q2 _ HP.out).mono ?_); rintro e w1 ⟨v5, rfl, hR5, hb5⟩))
      rename_i hH
      obtain ⟨fc0', fc1', fc2'⟩ := hH
      have hE := Kd.R_elder' (Kd.R_drew HR.out) (Kd.R_base hR5) hb5
      have hV := Kd.R_lower (Kd.R_new' hR5 (Kd.R_lt (Kd.R_drew HR.out))) (below_size (below_drew1 HBB.out))
      have gb0 := blk_below (blk_drew HB0.out) hb5
      have gb1 := blk_below (blk_drew HB1.out) hb5
      have gB := below_step (below_drew1 HBB.out) hb5
      clear HR HB0 HB1 HBB fc0 fc1 fc2 hR5 hb5
      obtain ⟨Ao, co, eo⟩ := Kd.R_slice hV
      subst eo
      have HR := Aside0.mk hE
      have HV := Aside0.mk hV
      have HB0 := Aside0.mk gb0
      have HB1 := Aside0.mk gb1
      have HBB := Aside0.mk gB
      clear hE hV gb0 gb1 gB
      by_cases hq : q2 = 0
      · subst hq
        have HQ' := HQ.out
        rw [if_pos rfl] at HQ'
        by_cases hn : n < 0
        · rw [if_pos hn] at HQ'
          simp only [Option.some.injEq, Prod.mk.injEq] at HQ'
          obtain ⟨rfl, rfl⟩ := HQ'
          go_wp2
          go_ret2
          exact ⟨_, rfl, Kd.R_nil _ _ _ _ _, HBB.out⟩
        · rw [if_neg hn] at HQ'
          by_cases hl : acc.length + q1.length < 140737488355328
          · rw [if_pos hl] at HQ'
            go_wp2_with (((with_reducible refine gate_builtin (b := .append) (xs := #[.tmp 33, .tmp 34]) rfl ?_); at_builtin; refine Kd.R_append_rows (Kd.int .u8) (w0 := w) w.heap.size rfl (.tmp 33) (.tmp 34) 22 5 (.int .u8 0) 1 rfl Try.underlying22 info5 rfl (by decide) (by omega) u2 acc q1 _ _ _ (fun k_ => some k_ ≠ (.slice Ao q1.length co : Value).ownBlock) (fun _ => False) rfl rfl ?aO ?aR (fun _ _ h => h) (fun _ h => h.elim) ?aF ?aB ?aS ?aL ?_; (case aR => exact (Kd.R_reads' HV.out).2.2); (case aB => exact HBB.out); (case aF => exact (fun k_ hk => Kd.fresh' (Kd.R_lt HV.out) k_ hk)); (case aO => exact (Kd.R_mono HR.out (fun _ hk => hk.2))); (case aS => exact below_size HBB.out); (case aL => omega); intro v1 w2 ho hb hg hat; have n0_ := Aside0.mk (blk_grown HB0.out hg (Kd.R_ne HR.out HB0.out (by decide))); have n1_ := Aside0.mk (blk_grown HB1.out hg (Kd.R_ne HR.out HB1.out (by decide))); have n2_ := Aside0.mk hb; have n3_ := Aside0.mk ho; clear HB0 HB1 HBB HR HV ho hb hg hat; have HB0 := n0_; have HB1 := n1_; have HBB := n2_; have HR := n3_; clear n0_ n1_ n2_ n3_))
            cases gk with
            | zero => exact absurd hj (by omega)
            | succ k3 =>
              go_roundg k3
              case measure => omega
              case rel => exact ⟨j + 1, acc ++ q1, by omega, by omega, rfl, Kd.R_mono HR.out (fun _ _ => trivial), by rw [HD.out]; exact HQ', HB0.out, HB1.out, HBB.out⟩
          · rw [if_neg hl] at HQ'
            exact absurd HQ' (by simp)
      · have HQ' := HQ.out
        rw [if_neg hq] at HQ'
        simp only [Option.some.injEq, Prod.mk.injEq] at HQ'
        obtain ⟨rfl, rfl⟩ := HQ'
        go_wp2
        go_ret2
        exact ⟨_, rfl, Kd.R_nil _ _ _ _ _, HBB.out⟩
    · have hj10 : j = 10 := by omega
      subst hj10
      have HA' : some (acc, (0 : Int)) = some (r1, r2) := HA
      simp only [Option.some.injEq, Prod.mk.injEq] at HA'
      obtain ⟨rfl, rfl⟩ := HA'
      clear HA
      have HR := Aside0.mk hR
      have HBB := Aside0.mk hB
      clear hR hB
      go_wp2
      go_ret2
      exact ⟨_, rfl, HR.out, HBB.out⟩

/-! ### stringslite_HasPrefix: function 18 -/
def stringslite_HasPrefix.f (a0 : ByteArray) (a1 : ByteArray) : Option (Bool) := if (a0.size : Int) ≥ (a1.size : Int) then (if 0 ≤ (a1.size : Int) then (if (a1.size : Int) ≤ (a0.size : Int) then (some ((a0.extract 0 a1.size).toList == a1.toList)) else (none)) else (none)) else (some false)
set_option maxHeartbeats 8000000 in
set_option maxRecDepth 100000 in
theorem stringslite_HasPrefix.calls (a0 : ByteArray) (a1 : ByteArray) (r : Bool) (w : World) (h : stringslite_HasPrefix.f a0 a1 = some r) :
  Calls Try.prog 18 #[.string a0, .string a1] w fun e w' => e = .returned (.bool r) ∧ Drawn0 w w' := by
 have H : (if (a0.size : Int) ≥ (a1.size : Int) then (if 0 ≤ (a1.size : Int) then (if (a1.size : Int) ≤ (a0.size : Int) then (some ((a0.extract 0 a1.size).toList == a1.toList)) else (none)) else (none)) else (some false)) = some r := h
 clear h
 by_cases c3 : (a0.size : Int) ≥ (a1.size : Int)
 ·
  rw [if_pos c3] at H
  have c3b0 : decide ((a1.size : Int) ≤ (a0.size : Int)) = true := decide_eq_true c3
  have c3b1 : decide (a1.size ≤ a0.size) = true := decide_eq_true (Int.ofNat_le.mp c3)
  clear c3
  by_cases c4 : 0 ≤ (a1.size : Int)
  ·
   rw [if_pos c4] at H
   have c4b0 := eq_true c4
   have c4b1 : decide (0 ≤ (a1.size : Int)) = true := decide_eq_true c4
   clear c4
   by_cases c5 : (a1.size : Int) ≤ (a0.size : Int)
   ·
    rw [if_pos c5] at H
    have c5b0 := eq_true c5
    have c5b1 : decide ((a1.size : Int) ≤ (a0.size : Int)) = true := decide_eq_true c5
    clear c5
    obtain rfl := Option.some.inj H
    go_enter Try.func18, Try.ntmps18
    go_wp2
    go_ret
    exact ⟨by first | rfl | (simp; done) | (simp [*]; done), by repeat (first | exact Drawn0.refl _ | apply Drawn0.step)⟩
   ·
    rw [if_neg c5] at H
    exact absurd H (by simp)
  ·
   rw [if_neg c4] at H
   exact absurd H (by simp)
 ·
  rw [if_neg c3] at H
  have c3b0 : decide ((a1.size : Int) ≤ (a0.size : Int)) = false := decide_eq_false c3
  have c3b1 : decide (a1.size ≤ a0.size) = false := decide_eq_false (fun h => c3 (Int.ofNat_le.mpr h))
  clear c3
  obtain rfl := Option.some.inj H
  go_enter Try.func18, Try.ntmps18
  go_wp2
  go_ret
  exact ⟨by first | rfl | (simp; done) | (simp [*]; done), by repeat (first | exact Drawn0.refl _ | apply Drawn0.step)⟩

/-! ### stringslite_CutPrefix: function 16 -/
def stringslite_CutPrefix.f (a0 : ByteArray) (a1 : ByteArray) : Option (ByteArray × Bool) := (stringslite_HasPrefix.f a0 a1).bind fun t106 => (if t106 = true then (if 0 ≤ (a1.size : Int) then (if (a1.size : Int) ≤ (a0.size : Int) then (some (a0.extract a1.size a0.size, true)) else (none)) else (none)) else (some (a0, false)))
set_option maxHeartbeats 8000000 in
set_option maxRecDepth 100000 in
theorem stringslite_CutPrefix.calls (a0 : ByteArray) (a1 : ByteArray) (r1 : ByteArray) (r2 : Bool) (w : World) (h : stringslite_CutPrefix.f a0 a1 = some (r1, r2)) :
  Calls Try.prog 16 #[.string a0, .string a1] w fun e w' => e = .returned (.tuple #[.string r1, .bool r2]) ∧ Drawn0 w w' := by
 have H : ((stringslite_HasPrefix.f a0 a1).bind fun t106 => (if t106 = true then (if 0 ≤ (a1.size : Int) then (if (a1.size : Int) ≤ (a0.size : Int) then (some (a0.extract a1.size a0.size, true)) else (none)) else (none)) else (some (a0, false)))) = some (r1, r2) := h
 clear h
 replace H := Option.bind_eq_some_iff.mp H
 obtain ⟨t106, A30, H⟩ := H
 replace H : (if t106 = true then (if 0 ≤ (a1.size : Int) then (if (a1.size : Int) ≤ (a0.size : Int) then (some (a0.extract a1.size a0.size, true)) else (none)) else (none)) else (some (a0, false))) = some (r1, r2) := H
 have A3 := Aside0.mk A30
 clear A30
 by_cases c4 : t106 = true
 ·
  subst c4
  have H1 : (if 0 ≤ (a1.size : Int) then (if (a1.size : Int) ≤ (a0.size : Int) then (some (a0.extract a1.size a0.size, true)) else (none)) else (none)) = some (r1, r2) := by rw [if_pos rfl] at H; exact H
  clear H
  have H := H1
  clear H1
  by_cases c5 : 0 ≤ (a1.size : Int)
  ·
   rw [if_pos c5] at H
   have c5b0 := eq_true c5
   have c5b1 : decide (0 ≤ (a1.size : Int)) = true := decide_eq_true c5
   clear c5
   by_cases c6 : (a1.size : Int) ≤ (a0.size : Int)
   ·
    rw [if_pos c6] at H
    have c6b0 := eq_true c6
    have c6b1 : decide ((a1.size : Int) ≤ (a0.size : Int)) = true := decide_eq_true c6
    clear c6
    simp only [Option.some.injEq, Prod.mk.injEq] at H
    obtain ⟨rfl, rfl⟩ := H
    go_enter Try.func16, Try.ntmps16
    go_wp2_with (first | ((with_reducible refine gate_callee (f := 18) rfl ?_); refine goesL_ (some 8) rfl rfl Try.func18 (by kernel_rfl) rfl #[.string a0, .string a1] rfl (by (try simp only [List.map_toArray, List.map_cons, List.map_nil]); first | done | rfl | (simp only [List.length_drop, List.length_take]; rfl)) ?_; (with_reducible refine (stringslite_HasPrefix.calls a0 a1 true _ A3.out).mono ?_); rintro e w' ⟨rfl, ⟨nd, rfl⟩⟩; refine ⟨_, rfl, ?_⟩))
    go_ret2
    exact ⟨by first | rfl | (simp; done) | (simp [*]; done), by repeat (first | exact Drawn0.refl _ | apply Drawn0.step)⟩
   ·
    rw [if_neg c6] at H
    exact absurd H (by simp)
  ·
   rw [if_neg c5] at H
   exact absurd H (by simp)
 ·
  replace c4 := Bool.eq_false_iff.mpr c4
  subst c4
  have H1 : (some (a0, false)) = some (r1, r2) := by rw [if_neg (show ¬ (false = true) by decide)] at H; exact H
  clear H
  have H := H1
  clear H1
  simp only [Option.some.injEq, Prod.mk.injEq] at H
  obtain ⟨rfl, rfl⟩ := H
  go_enter Try.func16, Try.ntmps16
  go_wp2_with (first | ((with_reducible refine gate_callee (f := 18) rfl ?_); refine goesL_ (some 8) rfl rfl Try.func18 (by kernel_rfl) rfl #[.string a0, .string a1] rfl (by (try simp only [List.map_toArray, List.map_cons, List.map_nil]); first | done | rfl | (simp only [List.length_drop, List.length_take]; rfl)) ?_; (with_reducible refine (stringslite_HasPrefix.calls a0 a1 false _ A3.out).mono ?_); rintro e w' ⟨rfl, ⟨nd, rfl⟩⟩; refine ⟨_, rfl, ?_⟩))
  go_ret2
  exact ⟨by first | rfl | (simp; done) | (simp [*]; done), by repeat (first | exact Drawn0.refl _ | apply Drawn0.step)⟩

/-! ### strings_CutPrefix: function 13 -/
def strings_CutPrefix.f (a0 : ByteArray) (a1 : ByteArray) : Option (ByteArray × Bool) := (stringslite_CutPrefix.f a0 a1).bind fun bt107 => (some (bt107.1, bt107.2))
set_option maxHeartbeats 8000000 in
set_option maxRecDepth 100000 in
theorem strings_CutPrefix.calls (a0 : ByteArray) (a1 : ByteArray) (r1 : ByteArray) (r2 : Bool) (w : World) (h : strings_CutPrefix.f a0 a1 = some (r1, r2)) :
  Calls Try.prog 13 #[.string a0, .string a1] w fun e w' => e = .returned (.tuple #[.string r1, .bool r2]) ∧ Drawn0 w w' := by
 have H : ((stringslite_CutPrefix.f a0 a1).bind fun bt107 => (some (bt107.1, bt107.2))) = some (r1, r2) := h
 clear h
 replace H := Option.bind_eq_some_iff.mp H
 obtain ⟨⟨t107, t108⟩, A30, H⟩ := H
 replace H : (some (t107, t108)) = some (r1, r2) := H
 have A3 := Aside0.mk A30
 clear A30
 simp only [Option.some.injEq, Prod.mk.injEq] at H
 obtain ⟨rfl, rfl⟩ := H
 go_enter Try.func13, Try.ntmps13
 go_wp2_with (first | ((with_reducible refine gate_callee (f := 16) rfl ?_); refine goesL_ (some 8) rfl rfl Try.func16 (by kernel_rfl) rfl #[.string a0, .string a1] rfl (by (try simp only [List.map_toArray, List.map_cons, List.map_nil]); first | done | rfl | (simp only [List.length_drop, List.length_take]; rfl)) ?_; (with_reducible refine (stringslite_CutPrefix.calls a0 a1 t107 t108 _ A3.out).mono ?_); rintro e w' ⟨rfl, ⟨nd, rfl⟩⟩; refine ⟨_, rfl, ?_⟩))
 go_ret2
 exact ⟨by first | rfl | (simp; done) | (simp [*]; done), by repeat (first | exact Drawn0.refl _ | apply Drawn0.step)⟩


/-! ### sect_Kind: function 8 -/
/-- strings.IndexFunc at a predicate on runes, from place pos on, by at most so many runes. -/
def idxF (p : Nat → Bool) (s : ByteArray) : Nat → Nat → Int
  | 0, _ => -1
  | f + 1, pos => if pos < s.size then (if p (Utf8.decode s pos).1 = true then (pos : Int) else idxF p s f (pos + (Utf8.decode s pos).2)) else -1
theorem idxF_end (p : Nat → Bool) (s : ByteArray) (f pos : Nat) (h : ¬ pos < s.size) : idxF p s f pos = -1 := by cases f <;> simp [idxF, h]
def oddR (r : Nat) : Bool := decide (r < 33) || decide (126 < r)
theorem oddR_yes {r : Nat} (h : r < 33 ∨ 126 < r) : oddR r = true := by simp [oddR]; exact h
theorem oddR_no {r : Nat} (h : ¬ (r < 33 ∨ 126 < r)) : oddR r = false := by simp [oddR]; omega
theorem odd_calls (r : Nat) (w : World) : Calls Try.prog 12 #[.int .i32 (r : Int)] w fun e w' => e = .returned (.bool (oddR r)) ∧ w' = w := by
  by_cases h1 : r < 33
  · have f1 : decide ((r : Int) < 33) = true := decide_eq_true (by omega)
    rw [oddR_yes (.inl h1)]
    go_enter Try.func12, Try.ntmps12
    go_wp2
    go_ret
    exact ⟨rfl, rfl⟩
  · have f1 : decide ((r : Int) < 33) = false := decide_eq_false (by omega)
    by_cases h2 : 126 < r
    · have f2 : decide (126 < (r : Int)) = true := decide_eq_true (by omega)
      rw [oddR_yes (.inr h2)]
      go_enter Try.func12, Try.ntmps12
      go_wp2
      go_ret
      exact ⟨rfl, rfl⟩
    · have f2 : decide (126 < (r : Int)) = false := decide_eq_false (by omega)
      rw [oddR_no (by omega)]
      go_enter Try.func12, Try.ntmps12
      go_wp2
      go_ret
      exact ⟨rfl, rfl⟩
set_option maxHeartbeats 2000000 in
set_option maxRecDepth 1000000 in
theorem indexFunc_odd (s : ByteArray) (w : World) :
    Calls Try.prog 17 #[.string s, .func (.func 12) #[] #[], .bool true] w fun e w' => e = .returned (.int .i64 (idxF oddR s s.size 0)) ∧ Below w.heap.size w w' := by
  go_enter Try.func17, Try.ntmps17
  go_wp2
  go_loopg [] s.size (fun gf wx => ∃ pos : Nat, wx.heap[w.heap.size]? = some (.stringIter s pos) ∧ Below w.heap.size w wx ∧ idxF oddR s gf pos = idxF oddR s s.size 0 ∧ s.size ≤ pos + gf)
  case atStart => exact ⟨0, World.iter_heap w s 0, (Below.refl _ w).alloc (Nat.le_refl _) _, rfl, by omega⟩
  case round =>
    obtain ⟨pos, hit, hbw, hleft, hfu⟩ := hrel
    by_cases hps : pos < s.size
    · obtain ⟨g', rfl⟩ : ∃ g', gk = g' + 1 := ⟨gk - 1, by omega⟩
      have hnx : ∀ ty, (Instr.next (.pointer (some ⟨w.heap.size, 0, none⟩)) true ty).run Try.prog wr = _ := fun ty => Lib.run_next_any_at wr w.heap.size s pos ty hit hps
      have hwd := Lib.width_pos s pos
      obtain ⟨R, hR⟩ : ∃ R, (Utf8.decode s pos).1 = R := ⟨_, rfl⟩
      obtain ⟨K, hK⟩ : ∃ K, (Utf8.decode s pos).2 = K := ⟨_, rfl⟩
      simp only [idxF, hps, if_true, hR, hK] at hleft
      rw [hR, hK] at hnx
      rw [hK] at hwd
      have hit2 := Lib.iterAt_heap wr w.heap.size s pos (pos + K) hit
      have hbw2 := Lib.below_iterAt hbw (k := w.heap.size) (Nat.le_refl _) s (pos + K)
      obtain ⟨W, hWd⟩ : ∃ W, wr.iterAt w.heap.size s (pos + K) = W := ⟨_, rfl⟩
      rw [hWd] at hnx hit2 hbw2
      have cS := odd_calls R W
      cases hsp : oddR R <;> rw [hsp] at cS <;> simp only [hsp, if_true, Bool.false_eq_true, if_false] at hleft
      · go_wp2_with (go_at_call 12; refine cS.mono ?_; rintro e W' ⟨rfl, rfl⟩)
        go_roundg g'
        case measure => omega
        case rel => exact ⟨pos + K, hit2, hbw2, hleft, by omega⟩
      · go_wp2_with (go_at_call 12; refine cS.mono ?_; rintro e W' ⟨rfl, rfl⟩)
        go_ret
        exact ⟨by rw [← hleft] <;> rfl, hbw2⟩
    · have hnx : ∀ ty, (Instr.next (.pointer (some ⟨w.heap.size, 0, none⟩)) true ty).run Try.prog wr = _ := fun ty => Lib.run_next_end_at wr w.heap.size s pos ty hit hps
      rw [idxF_end oddR s gk pos hps] at hleft
      go_wp2
      go_ret
      exact ⟨by rw [← hleft] <;> rfl, hbw⟩
theorem idxFunc_odd (s : ByteArray) (w : World) :
    Calls Try.prog 15 #[.string s, .func (.func 12) #[] #[]] w fun e w' => e = .returned (.int .i64 (idxF oddR s s.size 0)) ∧ Below w.heap.size w w' := by
  go_enter Try.func15, Try.ntmps15
  go_wp2_with (go_at_call 17; refine (indexFunc_odd s _).mono ?_; rintro e W' ⟨rfl, hb⟩)
  go_ret
  exact ⟨rfl, hb⟩
/-- All letters are graphic. -/
def allIn (l : List UInt8) : Bool := l.all fun b => decide (33 ≤ b.toNat ∧ b.toNat ≤ 126)
theorem decode_odd (s : ByteArray) (pos : Nat) : oddR (Utf8.decode s pos).1 = oddR (s.get! pos).toNat := by
  rw [Lib.decode_at]
  have hb := (s.get! pos).toNat_lt
  generalize (s.get! pos).toNat = b at *
  by_cases h : b < 128
  · simp [Lib.decodeN, h]
  · rw [oddR_yes (r := b) (.inr (by omega))]
    apply oddR_yes
    right
    unfold Lib.decodeN
    rw [if_neg h]
    repeat' split
    all_goals first | omega | (simp only []; omega)
theorem decode_one (s : ByteArray) (pos : Nat) (h : oddR (s.get! pos).toNat = false) : (Utf8.decode s pos).2 = 1 := by
  rw [Lib.decode_at]
  generalize (s.get! pos).toNat = b at *
  have : b < 128 := by
    by_cases hb : b < 128
    · exact hb
    · rw [oddR_yes (.inr (by omega))] at h
      cases h
  simp [Lib.decodeN, this]
theorem idxF_iff (s : ByteArray) (f : Nat) : ∀ pos, s.size ≤ pos + f → (0 ≤ idxF oddR s f pos ↔ ∃ j, pos ≤ j ∧ j < s.size ∧ oddR (s.get! j).toNat = true) := by
  induction f with
  | zero =>
    intro pos h
    simp only [idxF]
    constructor
    · intro h1
      omega
    · rintro ⟨j, h1, h2, _⟩
      omega
  | succ f ih =>
    intro pos h
    simp only [idxF]
    by_cases hp : pos < s.size
    · rw [if_pos hp, decode_odd]
      by_cases ho : oddR (s.get! pos).toNat = true
      · rw [if_pos ho]
        exact ⟨fun _ => ⟨pos, Nat.le_refl _, hp, ho⟩, fun _ => by omega⟩
      · rw [if_neg ho, decode_one s pos (by simpa using ho), ih (pos + 1) (by omega)]
        constructor
        · rintro ⟨j, h1, h2, h3⟩
          exact ⟨j, by omega, h2, h3⟩
        · rintro ⟨j, h1, h2, h3⟩
          by_cases e : j = pos
          · subst e
            exact absurd h3 ho
          · exact ⟨j, by omega, h2, h3⟩
    · rw [if_neg hp]
      constructor
      · intro h1
        omega
      · rintro ⟨j, h1, h2, _⟩
        omega
theorem get!_list (s : ByteArray) (j : Nat) (h : j < s.size) : s.get! j = s.data.toList[j]'(by rw [data_length]; exact h) := by
  have : j < s.data.size := h
  show s.data[j]! = _
  rw [getElem!_pos s.data j this]
  rfl
theorem allIn_iff (s : ByteArray) : (0 ≤ idxF oddR s s.size 0) ↔ (!allIn s.data.toList) = true := by
  rw [idxF_iff s s.size 0 (by omega)]
  constructor
  · rintro ⟨j, _, h2, h3⟩
    have hm : s.data.toList[j]'(by rw [data_length]; exact h2) ∈ s.data.toList := List.getElem_mem _
    rw [get!_list s j h2] at h3
    cases ha : allIn s.data.toList with
    | false => rfl
    | true =>
      have := List.all_eq_true.1 ha _ hm
      simp only [decide_eq_true_eq] at this
      rw [oddR_no (by omega)] at h3
      cases h3
  · intro h
    have ha : allIn s.data.toList = false := by simpa using h
    obtain ⟨b, hb, hn⟩ := List.all_eq_false.1 ha
    obtain ⟨j, hj, rfl⟩ := List.getElem_of_mem hb
    have hj2 : j < s.size := by rw [data_length] at hj; exact hj
    refine ⟨j, Nat.zero_le _, hj2, ?_⟩
    rw [get!_list s j hj2]
    simp only [decide_eq_true_eq] at hn
    exact oddR_yes (by omega)
theorem contains_odd (s : ByteArray) (b : Bool) (hb : allIn s.data.toList = !b) (w : World) :
    Calls Try.prog 11 #[.string s, .func (.func 12) #[] #[]] w fun e w' => e = .returned (.bool b) ∧ Below w.heap.size w w' := by
  have hi := allIn_iff s
  rw [hb, Bool.not_not] at hi
  obtain ⟨j, hj⟩ : ∃ j, idxF oddR s s.size 0 = j := ⟨_, rfl⟩
  have c := idxFunc_odd s
  rw [hj] at hi c
  have f1 : decide (0 ≤ j) = b := by cases b <;> simp_all
  clear hj hi hb
  go_enter Try.func11, Try.ntmps11
  go_wp2_with (go_at_call 15; refine (c _).mono ?_; rintro e W' ⟨rfl, hb⟩)
  go_ret
  exact ⟨rfl, hb⟩
/-- A text is another one, or that with a point and more behind it. -/
def headIs (l p : List UInt8) : Bool := decide (l.take p.length = p) && (decide (l.length = p.length) || decide ((l.getD p.length 0).toNat = 46))
def kindNames : List (List UInt8) := [[46, 116, 101, 120, 116], [46, 114, 111, 100, 97, 116, 97], [46, 100, 97, 116, 97], [46, 98, 115, 115]]
/-- The kind of a name that may be: from place k of the names on. -/
def kindFrom (l : List UInt8) : List (List UInt8) → Nat → Nat
  | [], _ => 0
  | p :: ps, k => if headIs l p = true then k + 1 else kindFrom l ps (k + 1)
def kindOf (l : List UInt8) : Nat := kindFrom l kindNames 0
/-- What sect.Kind answers. -/
def kindAns (l : List UInt8) : Int × Int := if l.length ≤ 32 ∧ allIn l = true ∧ kindOf l ≠ 0 then ((kindOf l : Int), 0) else (0, 3)
def sect_Kind.f (a0 : ByteArray) : Option (Int × Int) := if a0.size ≤ 9223372036854775807 then some (kindAns a0.data.toList) else none
theorem ext_list (s : ByteArray) (a b : Nat) : (s.extract a b).data.toList = (s.data.toList.take b).drop a := by
  rw [ByteArray.data_extract, Array.toList_extract, List.extract_eq_take_drop, List.drop_take]
theorem cut_pre (s p : ByteArray) (h : s.data.toList.take p.size = p.data.toList) (hs : s.size ≤ 9223372036854775807) : strings_CutPrefix.f s p = some (s.extract p.size s.size, true) := by
  have hl : p.size ≤ s.size := by
    have := congrArg List.length h
    rw [List.length_take, data_length, data_length] at this
    omega
  have he : (s.extract 0 p.size).toList = p.toList := by
    rw [ByteArray.toList_eq, ByteArray.toList_eq, ext_list, h, List.drop_zero]
  unfold strings_CutPrefix.f stringslite_CutPrefix.f stringslite_HasPrefix.f
  (try simp only [Int.toNat_natCast])
  rw [if_pos (by omega), if_pos (by omega), if_pos (by omega), he]
  simp only [Option.bind_some, beq_self_eq_true, if_true]
  rw [if_pos (by omega), if_pos (by omega)]
  rfl
theorem cut_not (s p : ByteArray) (h : ¬ s.data.toList.take p.size = p.data.toList) (hs : s.size ≤ 9223372036854775807) : strings_CutPrefix.f s p = some (s, false) := by
  unfold strings_CutPrefix.f stringslite_CutPrefix.f stringslite_HasPrefix.f
  (try simp only [Int.toNat_natCast])
  by_cases hl : (s.size : Int) ≥ (p.size : Int)
  · have he : ((s.extract 0 p.size).toList == p.toList) = false := by
      rw [ByteArray.toList_eq, ByteArray.toList_eq, ext_list, List.drop_zero]
      simpa using h
    rw [if_pos hl, if_pos (by omega), if_pos (by omega), he]
    rfl
  · rw [if_neg hl]
    rfl
theorem below_draws {B : Nat} {w W : World} (h : Below B w W) (n : Nat) : Below B w (W.drewN n) := pw_below_drewN h n
set_option maxHeartbeats 4000000 in
set_option maxRecDepth 1000000 in
theorem sect_Kind.rounds (s : ByteArray) (w : World) (hs : s.size ≤ 9223372036854775807) (h32 : s.size ≤ 32) (ha : allIn s.data.toList = true) (r1 r2 : Int)
    (hres : ∀ k, kindOf s.data.toList = k → k ≠ 0 → ((k : Int), (0 : Int)) = (r1, r2)) (hno : kindOf s.data.toList = 0 → ((0 : Int), (3 : Int)) = (r1, r2)) :
    Calls Try.prog 8 #[.string s] w fun e w' => e = .returned (.tuple #[.int .u8 r1, .int .i64 r2]) ∧ Below w.heap.size w w' := by
  have f32 : decide ((32 : Int) < (s.size : Int)) = false := decide_eq_false (by omega)
  have f32b : decide (32 < s.size) = false := decide_eq_false (by omega)
  have cC := fun W => contains_odd s false ha W
  clear ha
  have HO := Aside0.mk hno
  have HRS := Aside0.mk hres
  clear hno hres
  go_enter Try.func8, Try.ntmps8
  go_wp2_with (go_at_call 11; refine (cC _).mono ?_; rintro e W' ⟨rfl, hb⟩)
  go_loopg [20] 4 (fun gf i wx => ∃ k : Nat, k + gf = 4 ∧ i = .int .i64 k ∧ kindFrom s.data.toList (kindNames.drop k) k = kindOf s.data.toList ∧ Below w.heap.size w wx)
  case atStart => exact ⟨0, rfl, rfl, rfl, hb⟩
  case round =>
    obtain ⟨k, hk, rfl, hleft, hbw⟩ := hrel
    have hres := HRS.out
    clear f32 f32b cC
    rcases (show k = 0 ∨ k = 1 ∨ k = 2 ∨ k = 3 ∨ k = 4 by omega) with rfl | rfl | rfl | rfl | rfl
    · -- name 0
      have hix : ∀ W, (Instr.index 45 (.agg #[.string ⟨#[46, 116, 101, 120, 116]⟩, .string ⟨#[46, 114, 111, 100, 97, 116, 97]⟩, .string ⟨#[46, 100, 97, 116, 97]⟩, .string ⟨#[46, 98, 115, 115]⟩]) (.int .i64 0)).run Try.prog W = .ok (.string ⟨#[46, 116, 101, 120, 116]⟩) W := fun W => by kernel_rfl
      have hkl : (if headIs s.data.toList [46, 116, 101, 120, 116] = true then 1 else kindFrom s.data.toList (kindNames.drop 1) 1) = kindOf s.data.toList := hleft
      clear hleft
      by_cases hp : s.data.toList.take 5 = [46, 116, 101, 120, 116]
      · have cS := fun W => strings_CutPrefix.calls s ⟨#[46, 116, 101, 120, 116]⟩ (s.extract 5 s.size) true W (cut_pre s ⟨#[46, 116, 101, 120, 116]⟩ hp hs)
        obtain ⟨R, hR⟩ : ∃ R, s.extract 5 s.size = R := ⟨_, rfl⟩
        rw [hR] at cS
        have hRl : R.data.toList = s.data.toList.drop 5 := by rw [← hR, ext_list, List.take_of_length_le (by rw [data_length]; exact Nat.le_refl _)]
        have hsz : R.size = s.size - 5 := by have := congrArg List.length hRl; rw [data_length, List.length_drop, data_length] at this; exact this
        have hple : 5 ≤ s.size := by have := congrArg List.length hp; rw [List.length_take, data_length] at this; simp at this; omega
        have ht : R.toList = R.data.toList := ByteArray.toList_eq R
        by_cases h0 : R.size = 0
        · have hnil : R.toList = [] := by rw [ht]; exact List.eq_nil_of_length_eq_zero (by rw [data_length]; exact h0)
          have hhd : headIs s.data.toList [46, 116, 101, 120, 116] = true := by
            have : s.size = 5 := by omega
            simp [headIs, hp, data_length, this]
          rw [if_pos hhd] at hkl
          have e1 : (R.toList == ([] : List UInt8)) = true := by rw [hnil]; rfl
          have e2 : (R.toList != ([] : List UInt8)) = false := by rw [hnil]; rfl
          have e3 : R.toList.isEmpty = true := by rw [hnil]; rfl
          obtain ⟨rfl, rfl⟩ := Prod.mk.inj (hres _ hkl.symm (by decide))
          clear hp hR hRl hsz ht h0 hhd hkl hres
          have HN := Aside0.mk hnil
          clear hnil
          go_wp2_with (go_at_call 13; refine (cS _).mono ?_; rintro e W' ⟨rfl, ⟨nd, rfl⟩⟩)
          go_ret2
          exact ⟨rfl, below_draws hbw nd⟩
        · have hnn : ¬ R.toList = [] := by rw [ht]; intro h; exact h0 (by have := congrArg List.length h; rw [data_length] at this; exact this)
          have e1 : (R.toList == ([] : List UInt8)) = false := by simpa using hnn
          have e2 : (R.toList != ([] : List UInt8)) = true := by simpa using hnn
          have e3 : R.toList.isEmpty = false := by simpa using hnn
          have q9 : 0 < R.size := by omega
          have hx9 : ∀ h : 0 < R.size, ((R[0]'h).toNat : Int) = bt R 0 := bt_at R 0
          have hbt : bt R 0 = ((s.data.toList.getD 5 0).toNat : Int) := by
            have h1 := bt_at R 0 q9
            rw [← h1]
            have h2 : (R[0]'q9) = s.data.toList.getD 5 0 := by
              have h3 : s.data.toList.getD 5 0 = R.data.toList.getD 0 0 := by rw [hRl, List.getD_eq_getElem?_getD, List.getD_eq_getElem?_getD, List.getElem?_drop]
              rw [h3, List.getD_eq_getElem?_getD, Array.getElem?_toList, Array.getElem?_eq_getElem (show 0 < R.data.size from q9)]
              rfl
            exact congrArg (fun b : UInt8 => (b.toNat : Int)) h2
          have qi9 : (0 < (R.size : Int)) = True := eq_true (by omega)
          by_cases h46 : bt R 0 = 46
          · have hhd : headIs s.data.toList [46, 116, 101, 120, 116] = true := by
              have h5 : (s.data.toList.getD 5 0).toNat = 46 := by omega
              simp only [headIs, List.length_cons, List.length_nil, Nat.reduceAdd, hp, h5, decide_true, Bool.or_true, Bool.and_true]
            rw [if_pos hhd] at hkl
            have f46 : (bt R 0 == 46) = true := beq_iff_eq.mpr h46
            obtain ⟨rfl, rfl⟩ := Prod.mk.inj (hres _ hkl.symm (by decide))
            clear hp hR hRl hsz ht h0 hhd hkl hres hbt h46 hnn
            replace q9 := eq_true q9
            go_wp2_with (go_at_call 13; refine (cS _).mono ?_; rintro e W' ⟨rfl, ⟨nd, rfl⟩⟩)
            go_ret2
            exact ⟨rfl, below_draws hbw nd⟩
          · have hhd : ¬ headIs s.data.toList [46, 116, 101, 120, 116] = true := by
              have h5 : ¬ (s.data.toList.getD 5 0).toNat = 46 := by omega
              have h6 : ¬ s.data.toList.length = 5 := by rw [data_length]; omega
              simp only [headIs, List.length_cons, List.length_nil, Nat.reduceAdd, hp, h5, h6, decide_true, decide_false, Bool.or_false, Bool.and_false]
              decide
            rw [if_neg hhd] at hkl
            have f46 : (bt R 0 == 46) = false := beq_eq_false_iff_ne.mpr h46
            clear hp hR hRl hsz ht h0 hhd hbt h46 hnn
            replace q9 := eq_true q9
            have HK := Aside0.mk hkl
            have HR := Aside0.mk hres
            clear hkl hres
            go_wp2_with (go_at_call 13; refine (cS _).mono ?_; rintro e W' ⟨rfl, ⟨nd, rfl⟩⟩)
            go_roundg 3
            case measure => omega
            case rel => exact ⟨1, by omega, rfl, HK.out, below_draws hbw nd⟩
      · have cS := fun W => strings_CutPrefix.calls s ⟨#[46, 116, 101, 120, 116]⟩ s false W (cut_not s ⟨#[46, 116, 101, 120, 116]⟩ hp hs)
        have hhd : ¬ headIs s.data.toList [46, 116, 101, 120, 116] = true := by
          simp only [headIs, List.length_cons, List.length_nil, Nat.reduceAdd, hp, decide_false, Bool.false_and]
          decide
        rw [if_neg hhd] at hkl
        clear hp hhd
        have HK := Aside0.mk hkl
        have HR := Aside0.mk hres
        clear hkl hres
        go_wp2_with (go_at_call 13; refine (cS _).mono ?_; rintro e W' ⟨rfl, ⟨nd, rfl⟩⟩)
        go_roundg 3
        case measure => omega
        case rel => exact ⟨1, by omega, rfl, HK.out, below_draws hbw nd⟩
    · -- name 1
      have hix : ∀ W, (Instr.index 45 (.agg #[.string ⟨#[46, 116, 101, 120, 116]⟩, .string ⟨#[46, 114, 111, 100, 97, 116, 97]⟩, .string ⟨#[46, 100, 97, 116, 97]⟩, .string ⟨#[46, 98, 115, 115]⟩]) (.int .i64 1)).run Try.prog W = .ok (.string ⟨#[46, 114, 111, 100, 97, 116, 97]⟩) W := fun W => by kernel_rfl
      have hkl : (if headIs s.data.toList [46, 114, 111, 100, 97, 116, 97] = true then 2 else kindFrom s.data.toList (kindNames.drop 2) 2) = kindOf s.data.toList := hleft
      clear hleft
      by_cases hp : s.data.toList.take 7 = [46, 114, 111, 100, 97, 116, 97]
      · have cS := fun W => strings_CutPrefix.calls s ⟨#[46, 114, 111, 100, 97, 116, 97]⟩ (s.extract 7 s.size) true W (cut_pre s ⟨#[46, 114, 111, 100, 97, 116, 97]⟩ hp hs)
        obtain ⟨R, hR⟩ : ∃ R, s.extract 7 s.size = R := ⟨_, rfl⟩
        rw [hR] at cS
        have hRl : R.data.toList = s.data.toList.drop 7 := by rw [← hR, ext_list, List.take_of_length_le (by rw [data_length]; exact Nat.le_refl _)]
        have hsz : R.size = s.size - 7 := by have := congrArg List.length hRl; rw [data_length, List.length_drop, data_length] at this; exact this
        have hple : 7 ≤ s.size := by have := congrArg List.length hp; rw [List.length_take, data_length] at this; simp at this; omega
        have ht : R.toList = R.data.toList := ByteArray.toList_eq R
        by_cases h0 : R.size = 0
        · have hnil : R.toList = [] := by rw [ht]; exact List.eq_nil_of_length_eq_zero (by rw [data_length]; exact h0)
          have hhd : headIs s.data.toList [46, 114, 111, 100, 97, 116, 97] = true := by
            have : s.size = 7 := by omega
            simp [headIs, hp, data_length, this]
          rw [if_pos hhd] at hkl
          have e1 : (R.toList == ([] : List UInt8)) = true := by rw [hnil]; rfl
          have e2 : (R.toList != ([] : List UInt8)) = false := by rw [hnil]; rfl
          have e3 : R.toList.isEmpty = true := by rw [hnil]; rfl
          obtain ⟨rfl, rfl⟩ := Prod.mk.inj (hres _ hkl.symm (by decide))
          clear hp hR hRl hsz ht h0 hhd hkl hres
          have HN := Aside0.mk hnil
          clear hnil
          go_wp2_with (go_at_call 13; refine (cS _).mono ?_; rintro e W' ⟨rfl, ⟨nd, rfl⟩⟩)
          go_ret2
          exact ⟨rfl, below_draws hbw nd⟩
        · have hnn : ¬ R.toList = [] := by rw [ht]; intro h; exact h0 (by have := congrArg List.length h; rw [data_length] at this; exact this)
          have e1 : (R.toList == ([] : List UInt8)) = false := by simpa using hnn
          have e2 : (R.toList != ([] : List UInt8)) = true := by simpa using hnn
          have e3 : R.toList.isEmpty = false := by simpa using hnn
          have q9 : 0 < R.size := by omega
          have hx9 : ∀ h : 0 < R.size, ((R[0]'h).toNat : Int) = bt R 0 := bt_at R 0
          have hbt : bt R 0 = ((s.data.toList.getD 7 0).toNat : Int) := by
            have h1 := bt_at R 0 q9
            rw [← h1]
            have h2 : (R[0]'q9) = s.data.toList.getD 7 0 := by
              have h3 : s.data.toList.getD 7 0 = R.data.toList.getD 0 0 := by rw [hRl, List.getD_eq_getElem?_getD, List.getD_eq_getElem?_getD, List.getElem?_drop]
              rw [h3, List.getD_eq_getElem?_getD, Array.getElem?_toList, Array.getElem?_eq_getElem (show 0 < R.data.size from q9)]
              rfl
            exact congrArg (fun b : UInt8 => (b.toNat : Int)) h2
          have qi9 : (0 < (R.size : Int)) = True := eq_true (by omega)
          by_cases h46 : bt R 0 = 46
          · have hhd : headIs s.data.toList [46, 114, 111, 100, 97, 116, 97] = true := by
              have h5 : (s.data.toList.getD 7 0).toNat = 46 := by omega
              simp only [headIs, List.length_cons, List.length_nil, Nat.reduceAdd, hp, h5, decide_true, Bool.or_true, Bool.and_true]
            rw [if_pos hhd] at hkl
            have f46 : (bt R 0 == 46) = true := beq_iff_eq.mpr h46
            obtain ⟨rfl, rfl⟩ := Prod.mk.inj (hres _ hkl.symm (by decide))
            clear hp hR hRl hsz ht h0 hhd hkl hres hbt h46 hnn
            replace q9 := eq_true q9
            go_wp2_with (go_at_call 13; refine (cS _).mono ?_; rintro e W' ⟨rfl, ⟨nd, rfl⟩⟩)
            go_ret2
            exact ⟨rfl, below_draws hbw nd⟩
          · have hhd : ¬ headIs s.data.toList [46, 114, 111, 100, 97, 116, 97] = true := by
              have h5 : ¬ (s.data.toList.getD 7 0).toNat = 46 := by omega
              have h6 : ¬ s.data.toList.length = 7 := by rw [data_length]; omega
              simp only [headIs, List.length_cons, List.length_nil, Nat.reduceAdd, hp, h5, h6, decide_true, decide_false, Bool.or_false, Bool.and_false]
              decide
            rw [if_neg hhd] at hkl
            have f46 : (bt R 0 == 46) = false := beq_eq_false_iff_ne.mpr h46
            clear hp hR hRl hsz ht h0 hhd hbt h46 hnn
            replace q9 := eq_true q9
            have HK := Aside0.mk hkl
            have HR := Aside0.mk hres
            clear hkl hres
            go_wp2_with (go_at_call 13; refine (cS _).mono ?_; rintro e W' ⟨rfl, ⟨nd, rfl⟩⟩)
            go_roundg 2
            case measure => omega
            case rel => exact ⟨2, by omega, rfl, HK.out, below_draws hbw nd⟩
      · have cS := fun W => strings_CutPrefix.calls s ⟨#[46, 114, 111, 100, 97, 116, 97]⟩ s false W (cut_not s ⟨#[46, 114, 111, 100, 97, 116, 97]⟩ hp hs)
        have hhd : ¬ headIs s.data.toList [46, 114, 111, 100, 97, 116, 97] = true := by
          simp only [headIs, List.length_cons, List.length_nil, Nat.reduceAdd, hp, decide_false, Bool.false_and]
          decide
        rw [if_neg hhd] at hkl
        clear hp hhd
        have HK := Aside0.mk hkl
        have HR := Aside0.mk hres
        clear hkl hres
        go_wp2_with (go_at_call 13; refine (cS _).mono ?_; rintro e W' ⟨rfl, ⟨nd, rfl⟩⟩)
        go_roundg 2
        case measure => omega
        case rel => exact ⟨2, by omega, rfl, HK.out, below_draws hbw nd⟩
    · -- name 2
      have hix : ∀ W, (Instr.index 45 (.agg #[.string ⟨#[46, 116, 101, 120, 116]⟩, .string ⟨#[46, 114, 111, 100, 97, 116, 97]⟩, .string ⟨#[46, 100, 97, 116, 97]⟩, .string ⟨#[46, 98, 115, 115]⟩]) (.int .i64 2)).run Try.prog W = .ok (.string ⟨#[46, 100, 97, 116, 97]⟩) W := fun W => by kernel_rfl
      have hkl : (if headIs s.data.toList [46, 100, 97, 116, 97] = true then 3 else kindFrom s.data.toList (kindNames.drop 3) 3) = kindOf s.data.toList := hleft
      clear hleft
      by_cases hp : s.data.toList.take 5 = [46, 100, 97, 116, 97]
      · have cS := fun W => strings_CutPrefix.calls s ⟨#[46, 100, 97, 116, 97]⟩ (s.extract 5 s.size) true W (cut_pre s ⟨#[46, 100, 97, 116, 97]⟩ hp hs)
        obtain ⟨R, hR⟩ : ∃ R, s.extract 5 s.size = R := ⟨_, rfl⟩
        rw [hR] at cS
        have hRl : R.data.toList = s.data.toList.drop 5 := by rw [← hR, ext_list, List.take_of_length_le (by rw [data_length]; exact Nat.le_refl _)]
        have hsz : R.size = s.size - 5 := by have := congrArg List.length hRl; rw [data_length, List.length_drop, data_length] at this; exact this
        have hple : 5 ≤ s.size := by have := congrArg List.length hp; rw [List.length_take, data_length] at this; simp at this; omega
        have ht : R.toList = R.data.toList := ByteArray.toList_eq R
        by_cases h0 : R.size = 0
        · have hnil : R.toList = [] := by rw [ht]; exact List.eq_nil_of_length_eq_zero (by rw [data_length]; exact h0)
          have hhd : headIs s.data.toList [46, 100, 97, 116, 97] = true := by
            have : s.size = 5 := by omega
            simp [headIs, hp, data_length, this]
          rw [if_pos hhd] at hkl
          have e1 : (R.toList == ([] : List UInt8)) = true := by rw [hnil]; rfl
          have e2 : (R.toList != ([] : List UInt8)) = false := by rw [hnil]; rfl
          have e3 : R.toList.isEmpty = true := by rw [hnil]; rfl
          obtain ⟨rfl, rfl⟩ := Prod.mk.inj (hres _ hkl.symm (by decide))
          clear hp hR hRl hsz ht h0 hhd hkl hres
          have HN := Aside0.mk hnil
          clear hnil
          go_wp2_with (go_at_call 13; refine (cS _).mono ?_; rintro e W' ⟨rfl, ⟨nd, rfl⟩⟩)
          go_ret2
          exact ⟨rfl, below_draws hbw nd⟩
        · have hnn : ¬ R.toList = [] := by rw [ht]; intro h; exact h0 (by have := congrArg List.length h; rw [data_length] at this; exact this)
          have e1 : (R.toList == ([] : List UInt8)) = false := by simpa using hnn
          have e2 : (R.toList != ([] : List UInt8)) = true := by simpa using hnn
          have e3 : R.toList.isEmpty = false := by simpa using hnn
          have q9 : 0 < R.size := by omega
          have hx9 : ∀ h : 0 < R.size, ((R[0]'h).toNat : Int) = bt R 0 := bt_at R 0
          have hbt : bt R 0 = ((s.data.toList.getD 5 0).toNat : Int) := by
            have h1 := bt_at R 0 q9
            rw [← h1]
            have h2 : (R[0]'q9) = s.data.toList.getD 5 0 := by
              have h3 : s.data.toList.getD 5 0 = R.data.toList.getD 0 0 := by rw [hRl, List.getD_eq_getElem?_getD, List.getD_eq_getElem?_getD, List.getElem?_drop]
              rw [h3, List.getD_eq_getElem?_getD, Array.getElem?_toList, Array.getElem?_eq_getElem (show 0 < R.data.size from q9)]
              rfl
            exact congrArg (fun b : UInt8 => (b.toNat : Int)) h2
          have qi9 : (0 < (R.size : Int)) = True := eq_true (by omega)
          by_cases h46 : bt R 0 = 46
          · have hhd : headIs s.data.toList [46, 100, 97, 116, 97] = true := by
              have h5 : (s.data.toList.getD 5 0).toNat = 46 := by omega
              simp only [headIs, List.length_cons, List.length_nil, Nat.reduceAdd, hp, h5, decide_true, Bool.or_true, Bool.and_true]
            rw [if_pos hhd] at hkl
            have f46 : (bt R 0 == 46) = true := beq_iff_eq.mpr h46
            obtain ⟨rfl, rfl⟩ := Prod.mk.inj (hres _ hkl.symm (by decide))
            clear hp hR hRl hsz ht h0 hhd hkl hres hbt h46 hnn
            replace q9 := eq_true q9
            go_wp2_with (go_at_call 13; refine (cS _).mono ?_; rintro e W' ⟨rfl, ⟨nd, rfl⟩⟩)
            go_ret2
            exact ⟨rfl, below_draws hbw nd⟩
          · have hhd : ¬ headIs s.data.toList [46, 100, 97, 116, 97] = true := by
              have h5 : ¬ (s.data.toList.getD 5 0).toNat = 46 := by omega
              have h6 : ¬ s.data.toList.length = 5 := by rw [data_length]; omega
              simp only [headIs, List.length_cons, List.length_nil, Nat.reduceAdd, hp, h5, h6, decide_true, decide_false, Bool.or_false, Bool.and_false]
              decide
            rw [if_neg hhd] at hkl
            have f46 : (bt R 0 == 46) = false := beq_eq_false_iff_ne.mpr h46
            clear hp hR hRl hsz ht h0 hhd hbt h46 hnn
            replace q9 := eq_true q9
            have HK := Aside0.mk hkl
            have HR := Aside0.mk hres
            clear hkl hres
            go_wp2_with (go_at_call 13; refine (cS _).mono ?_; rintro e W' ⟨rfl, ⟨nd, rfl⟩⟩)
            go_roundg 1
            case measure => omega
            case rel => exact ⟨3, by omega, rfl, HK.out, below_draws hbw nd⟩
      · have cS := fun W => strings_CutPrefix.calls s ⟨#[46, 100, 97, 116, 97]⟩ s false W (cut_not s ⟨#[46, 100, 97, 116, 97]⟩ hp hs)
        have hhd : ¬ headIs s.data.toList [46, 100, 97, 116, 97] = true := by
          simp only [headIs, List.length_cons, List.length_nil, Nat.reduceAdd, hp, decide_false, Bool.false_and]
          decide
        rw [if_neg hhd] at hkl
        clear hp hhd
        have HK := Aside0.mk hkl
        have HR := Aside0.mk hres
        clear hkl hres
        go_wp2_with (go_at_call 13; refine (cS _).mono ?_; rintro e W' ⟨rfl, ⟨nd, rfl⟩⟩)
        go_roundg 1
        case measure => omega
        case rel => exact ⟨3, by omega, rfl, HK.out, below_draws hbw nd⟩
    · -- name 3
      have hix : ∀ W, (Instr.index 45 (.agg #[.string ⟨#[46, 116, 101, 120, 116]⟩, .string ⟨#[46, 114, 111, 100, 97, 116, 97]⟩, .string ⟨#[46, 100, 97, 116, 97]⟩, .string ⟨#[46, 98, 115, 115]⟩]) (.int .i64 3)).run Try.prog W = .ok (.string ⟨#[46, 98, 115, 115]⟩) W := fun W => by kernel_rfl
      have hkl : (if headIs s.data.toList [46, 98, 115, 115] = true then 4 else kindFrom s.data.toList (kindNames.drop 4) 4) = kindOf s.data.toList := hleft
      clear hleft
      by_cases hp : s.data.toList.take 4 = [46, 98, 115, 115]
      · have cS := fun W => strings_CutPrefix.calls s ⟨#[46, 98, 115, 115]⟩ (s.extract 4 s.size) true W (cut_pre s ⟨#[46, 98, 115, 115]⟩ hp hs)
        obtain ⟨R, hR⟩ : ∃ R, s.extract 4 s.size = R := ⟨_, rfl⟩
        rw [hR] at cS
        have hRl : R.data.toList = s.data.toList.drop 4 := by rw [← hR, ext_list, List.take_of_length_le (by rw [data_length]; exact Nat.le_refl _)]
        have hsz : R.size = s.size - 4 := by have := congrArg List.length hRl; rw [data_length, List.length_drop, data_length] at this; exact this
        have hple : 4 ≤ s.size := by have := congrArg List.length hp; rw [List.length_take, data_length] at this; simp at this; omega
        have ht : R.toList = R.data.toList := ByteArray.toList_eq R
        by_cases h0 : R.size = 0
        · have hnil : R.toList = [] := by rw [ht]; exact List.eq_nil_of_length_eq_zero (by rw [data_length]; exact h0)
          have hhd : headIs s.data.toList [46, 98, 115, 115] = true := by
            have : s.size = 4 := by omega
            simp [headIs, hp, data_length, this]
          rw [if_pos hhd] at hkl
          have e1 : (R.toList == ([] : List UInt8)) = true := by rw [hnil]; rfl
          have e2 : (R.toList != ([] : List UInt8)) = false := by rw [hnil]; rfl
          have e3 : R.toList.isEmpty = true := by rw [hnil]; rfl
          obtain ⟨rfl, rfl⟩ := Prod.mk.inj (hres _ hkl.symm (by decide))
          clear hp hR hRl hsz ht h0 hhd hkl hres
          have HN := Aside0.mk hnil
          clear hnil
          go_wp2_with (go_at_call 13; refine (cS _).mono ?_; rintro e W' ⟨rfl, ⟨nd, rfl⟩⟩)
          go_ret2
          exact ⟨rfl, below_draws hbw nd⟩
        · have hnn : ¬ R.toList = [] := by rw [ht]; intro h; exact h0 (by have := congrArg List.length h; rw [data_length] at this; exact this)
          have e1 : (R.toList == ([] : List UInt8)) = false := by simpa using hnn
          have e2 : (R.toList != ([] : List UInt8)) = true := by simpa using hnn
          have e3 : R.toList.isEmpty = false := by simpa using hnn
          have q9 : 0 < R.size := by omega
          have hx9 : ∀ h : 0 < R.size, ((R[0]'h).toNat : Int) = bt R 0 := bt_at R 0
          have hbt : bt R 0 = ((s.data.toList.getD 4 0).toNat : Int) := by
            have h1 := bt_at R 0 q9
            rw [← h1]
            have h2 : (R[0]'q9) = s.data.toList.getD 4 0 := by
              have h3 : s.data.toList.getD 4 0 = R.data.toList.getD 0 0 := by rw [hRl, List.getD_eq_getElem?_getD, List.getD_eq_getElem?_getD, List.getElem?_drop]
              rw [h3, List.getD_eq_getElem?_getD, Array.getElem?_toList, Array.getElem?_eq_getElem (show 0 < R.data.size from q9)]
              rfl
            exact congrArg (fun b : UInt8 => (b.toNat : Int)) h2
          have qi9 : (0 < (R.size : Int)) = True := eq_true (by omega)
          by_cases h46 : bt R 0 = 46
          · have hhd : headIs s.data.toList [46, 98, 115, 115] = true := by
              have h5 : (s.data.toList.getD 4 0).toNat = 46 := by omega
              simp only [headIs, List.length_cons, List.length_nil, Nat.reduceAdd, hp, h5, decide_true, Bool.or_true, Bool.and_true]
            rw [if_pos hhd] at hkl
            have f46 : (bt R 0 == 46) = true := beq_iff_eq.mpr h46
            obtain ⟨rfl, rfl⟩ := Prod.mk.inj (hres _ hkl.symm (by decide))
            clear hp hR hRl hsz ht h0 hhd hkl hres hbt h46 hnn
            replace q9 := eq_true q9
            go_wp2_with (go_at_call 13; refine (cS _).mono ?_; rintro e W' ⟨rfl, ⟨nd, rfl⟩⟩)
            go_ret2
            exact ⟨rfl, below_draws hbw nd⟩
          · have hhd : ¬ headIs s.data.toList [46, 98, 115, 115] = true := by
              have h5 : ¬ (s.data.toList.getD 4 0).toNat = 46 := by omega
              have h6 : ¬ s.data.toList.length = 4 := by rw [data_length]; omega
              simp only [headIs, List.length_cons, List.length_nil, Nat.reduceAdd, hp, h5, h6, decide_true, decide_false, Bool.or_false, Bool.and_false]
              decide
            rw [if_neg hhd] at hkl
            have f46 : (bt R 0 == 46) = false := beq_eq_false_iff_ne.mpr h46
            clear hp hR hRl hsz ht h0 hhd hbt h46 hnn
            replace q9 := eq_true q9
            have HK := Aside0.mk hkl
            have HR := Aside0.mk hres
            clear hkl hres
            go_wp2_with (go_at_call 13; refine (cS _).mono ?_; rintro e W' ⟨rfl, ⟨nd, rfl⟩⟩)
            go_roundg 0
            case measure => omega
            case rel => exact ⟨4, by omega, rfl, HK.out, below_draws hbw nd⟩
      · have cS := fun W => strings_CutPrefix.calls s ⟨#[46, 98, 115, 115]⟩ s false W (cut_not s ⟨#[46, 98, 115, 115]⟩ hp hs)
        have hhd : ¬ headIs s.data.toList [46, 98, 115, 115] = true := by
          simp only [headIs, List.length_cons, List.length_nil, Nat.reduceAdd, hp, decide_false, Bool.false_and]
          decide
        rw [if_neg hhd] at hkl
        clear hp hhd
        have HK := Aside0.mk hkl
        have HR := Aside0.mk hres
        clear hkl hres
        go_wp2_with (go_at_call 13; refine (cS _).mono ?_; rintro e W' ⟨rfl, ⟨nd, rfl⟩⟩)
        go_roundg 0
        case measure => omega
        case rel => exact ⟨4, by omega, rfl, HK.out, below_draws hbw nd⟩
    · -- the names are through
      have h0 : kindOf s.data.toList = 0 := hleft.symm
      obtain ⟨rfl, rfl⟩ := Prod.mk.inj (HO.out h0)
      clear hleft h0 hres
      go_wp2
      go_ret2
      exact ⟨rfl, hbw⟩
set_option maxHeartbeats 4000000 in
set_option maxRecDepth 1000000 in
theorem sect_Kind.calls (a0 : ByteArray) (r1 : Int) (r2 : Int) (w : World) (h : sect_Kind.f a0 = some (r1, r2)) :
    Calls Try.prog 8 #[.string a0] w fun e w' => e = .returned (.tuple #[.int .u8 r1, .int .i64 r2]) ∧ Below w.heap.size w w' := by
  unfold sect_Kind.f kindAns at h
  by_cases hs : a0.size ≤ 9223372036854775807
  · rw [if_pos hs] at h
    have h := Option.some.inj h
    rw [data_length] at h
    by_cases h32 : a0.size ≤ 32
    · cases ha : allIn a0.data.toList with
      | true =>
        refine sect_Kind.rounds a0 w hs h32 ha r1 r2 (fun k hk hne => ?_) (fun h0 => ?_)
        · rw [if_pos ⟨h32, ha, by rw [hk]; exact hne⟩, hk] at h
          exact h
        · rw [if_neg (fun hh => hh.2.2 h0)] at h
          exact h
      | false =>
        rw [if_neg (fun hh => by rw [ha] at hh; cases hh.2.1)] at h
        obtain ⟨rfl, rfl⟩ := Prod.mk.inj h
        have f32 : decide ((32 : Int) < (a0.size : Int)) = false := decide_eq_false (by omega)
        have f32b : decide (32 < a0.size) = false := decide_eq_false (by omega)
        have cC := fun W => contains_odd a0 true ha W
        clear ha h
        go_enter Try.func8, Try.ntmps8
        go_wp2_with (go_at_call 11; refine (cC _).mono ?_; rintro e W' ⟨rfl, hb⟩)
        go_ret2
        exact ⟨rfl, hb⟩
    · rw [if_neg (fun hh => h32 hh.1)] at h
      obtain ⟨rfl, rfl⟩ := Prod.mk.inj h
      have f32 : decide ((32 : Int) < (a0.size : Int)) = true := decide_eq_true (by omega)
      have f32b : decide (32 < a0.size) = true := decide_eq_true (by omega)
      cases ha : allIn a0.data.toList with
      | true =>
        have cC := fun W => contains_odd a0 false ha W
        clear ha h
        go_enter Try.func8, Try.ntmps8
        go_wp2_with (go_at_call 11; refine (cC _).mono ?_; rintro e W' ⟨rfl, hb⟩)
        go_ret2
        exact ⟨rfl, hb⟩
      | false =>
        have cC := fun W => contains_odd a0 true ha W
        clear ha h
        go_enter Try.func8, Try.ntmps8
        go_wp2_with (go_at_call 11; refine (cC _).mono ?_; rintro e W' ⟨rfl, hb⟩)
        go_ret2
        exact ⟨rfl, hb⟩
  · rw [if_neg hs] at h
    cases h

/-! ### quoinlaw09_alive: function 4 -/
def quoinlaw09_alive.f (k : Nat)  : Option (Bool) := (sect_Kind.f (⟨#[46, 100, 97, 116, 97, 46, 120]⟩ : ByteArray)).bind fun bt109 => ((sect_Write.f k 0 0 0 0 0 1 0 0 0 0).bind fun bt111 => (if bt109.2 = 0 then (if bt109.1 = 3 then (if bt111.2 = 0 then (if (bt111.1.length : Int) = 64 then (if 32 < (bt111.1.length : Int) then (some ((rd bt111.1 32) == 1)) else (none)) else (some false)) else (some false)) else (some false)) else (some false)))
theorem quoinlaw09_alive.mono : ∀ k, LeO (quoinlaw09_alive.f k ) (quoinlaw09_alive.f (k + 1) ) := by
 intro  k
 unfold quoinlaw09_alive.f
 repeat' first
   | (with_reducible exact sect_Write.mono _ _ _ _ _ _ _ _ _ _ _)
   | (with_reducible exact LeO.refl _)
   | (with_reducible exact LeO.none _)
   | (with_reducible refine LeO.ite ?_ ?_)
   | (with_reducible refine LeO.bind ?_ (fun _ => ?_))
   | exact sect_Write.mono _ _ _ _ _ _ _ _ _ _ _
   | exact LeO.none _
   | refine LeO.ite ?_ ?_
   | refine LeO.bind ?_ (fun _ => ?_)
set_option maxHeartbeats 8000000 in
set_option maxRecDepth 100000 in
theorem quoinlaw09_alive.calls (k : Nat)  (r : Bool) (w : World) (h : quoinlaw09_alive.f k  = some r) :
  Calls Try.prog 4 #[] w fun e w' => e = .returned (.bool r) ∧ Below w.heap.size w w' := by
 have hu26 := Try.underlying26
 have HB := Aside0.mk (Below.refl w.heap.size w)
 have H : ((sect_Kind.f (⟨#[46, 100, 97, 116, 97, 46, 120]⟩ : ByteArray)).bind fun bt109 => ((sect_Write.f k 0 0 0 0 0 1 0 0 0 0).bind fun bt111 => (if bt109.2 = 0 then (if bt109.1 = 3 then (if bt111.2 = 0 then (if (bt111.1.length : Int) = 64 then (if 32 < (bt111.1.length : Int) then (some ((rd bt111.1 32) == 1)) else (none)) else (some false)) else (some false)) else (some false)) else (some false)))) = some r := h
 clear h
 replace H := Option.bind_eq_some_iff.mp H
 obtain ⟨⟨t109, t110⟩, A10, H⟩ := H
 replace H : ((sect_Write.f k 0 0 0 0 0 1 0 0 0 0).bind fun bt111 => (if t110 = 0 then (if t109 = 3 then (if bt111.2 = 0 then (if (bt111.1.length : Int) = 64 then (if 32 < (bt111.1.length : Int) then (some ((rd bt111.1 32) == 1)) else (none)) else (some false)) else (some false)) else (some false)) else (some false))) = some r := H
 have A1 := Aside0.mk A10
 clear A10
 replace H := Option.bind_eq_some_iff.mp H
 obtain ⟨⟨t111, t114⟩, A20, H⟩ := H
 replace H : (if t110 = 0 then (if t109 = 3 then (if t114 = 0 then (if (t111.length : Int) = 64 then (if 32 < (t111.length : Int) then (some ((rd t111 32) == 1)) else (none)) else (some false)) else (some false)) else (some false)) else (some false)) = some r := H
 have A2 := Aside0.mk A20
 clear A20
 by_cases c3 : t110 = 0
 ·
  rw [if_pos c3] at H
  have c3b0 : (t110 == 0) = true := beq_iff_eq.mpr c3
  have c3b1 : (t110 != 0) = false := bne_eq_false_iff_eq.mpr c3
  clear c3
  by_cases c4 : t109 = 3
  ·
   rw [if_pos c4] at H
   have c4b0 : (t109 == 3) = true := beq_iff_eq.mpr c4
   have c4b1 : (t109 != 3) = false := bne_eq_false_iff_eq.mpr c4
   clear c4
   by_cases c5 : t114 = 0
   ·
    rw [if_pos c5] at H
    have c5b0 : (t114 == 0) = true := beq_iff_eq.mpr c5
    have c5b1 : (t114 != 0) = false := bne_eq_false_iff_eq.mpr c5
    clear c5
    by_cases c6 : (t111.length : Int) = 64
    ·
     rw [if_pos c6] at H
     have c6b0 : ((t111.length : Int) == 64) = true := beq_iff_eq.mpr c6
     have c6b1 : ((t111.length : Int) != 64) = false := bne_eq_false_iff_eq.mpr c6
     clear c6
     by_cases c7 : 32 < (t111.length : Int)
     ·
      rw [if_pos c7] at H
      have c7b0 : decide (32 < (t111.length : Int)) = true := decide_eq_true c7
      have c7b1 : decide (32 < t111.length) = true := decide_eq_true (by omega)
      clear c7
      obtain rfl := Option.some.inj H
      go_enter Try.func4, Try.ntmps4
      go_wp2_with (first | ((with_reducible refine gate_callee (f := 8) rfl ?_); refine goesL_ (some 6) rfl rfl Try.func8 (by kernel_rfl) rfl #[.string (⟨#[46, 100, 97, 116, 97, 46, 120]⟩ : ByteArray)] rfl (by (try simp only [List.map_toArray, List.map_cons, List.map_nil]); first | done | rfl | (simp only [List.length_drop, List.length_take]; rfl)) ?_; (with_reducible refine (sect_Kind.calls (⟨#[46, 100, 97, 116, 97, 46, 120]⟩ : ByteArray) t109 t110 _ A1.out).mono ?_); rintro e w8 ⟨rfl, hb⟩; refine ⟨_, rfl, ?_⟩; have n0_ := Aside0.mk (below_step (by repeat (first | (with_reducible first | exact HB.out | apply below_alloc | apply pw_below_drewN | apply below_drew1) | exact HB.out)) hb); clear HB; have HB := n0_; clear n0_; (try clear hb); (try clear hb2); (try clear hk); (try clear hi)) | ((with_reducible refine gate_callee (f := 7) rfl ?_); refine goesL_ (some 11) rfl rfl Try.func7 (by kernel_rfl) rfl #[.agg #[.int .i64 0, .int .i64 0, .int .i64 0, .int .i64 0, .int .i64 0, .int .i64 1, .int .i64 0, .int .i64 0, .int .i64 0, .int .i64 0]] rfl (by (try simp only [List.map_toArray, List.map_cons, List.map_nil]); first | done | rfl | (simp only [List.length_drop, List.length_take]; rfl)) ?_; (with_reducible refine (sect_Write.calls k 0 0 0 0 0 1 0 0 0 0 t111 t114 _ A2.out).mono ?_); rintro e w9 ⟨v112, rfl, ho0, hb⟩; refine ⟨_, rfl, ?_⟩; have n0_ := Aside0.mk (Kd.R_lower ho0 (below_size (by repeat (first | (with_reducible first | exact HB.out | apply below_alloc | apply pw_below_drewN | apply below_drew1) | exact HB.out)))); have n1_ := Aside0.mk (below_step (by repeat (first | (with_reducible first | exact HB.out | apply below_alloc | apply pw_below_drewN | apply below_drew1) | exact HB.out)) hb); clear HB; have HO113 := n0_; have HB := n1_; clear n0_ n1_; (try clear hb); (try clear hb2); (try clear hk); (try clear hi); (try clear ho0); obtain ⟨Ao10, co10, eo10⟩ := Kd.R_slice HO113.out; subst eo10; have p115 : 0 ≤ (32 : Int) := (by omega); have q115 : 32 < (t111.length : Int) := of_decide_eq_true (by first | (with_reducible assumption) | assumption); obtain ⟨ad115, e115, hx115_0⟩ := Kd.at_int (Kd.R_reads' HO113.out).2.2 32 p115 q115; cases e115; (try simp only [show (32 : Int).toNat = 32 from rfl, Nat.reduceMul, Nat.reduceEqDiff, Go.Addr.add, ↓reduceIte] at hx115_0); have qi115 : (32 < t111.length) = True := eq_true (by omega); (try rw [show ((32 : Int)).toNat = 32 from rfl] at hx115_0); replace p115 := eq_true p115; replace q115 := eq_true q115))
      go_ret
      exact ⟨by first | rfl | (simp [errW_none, errW_some] <;> rfl) | (simp [*, errW_none, errW_some] <;> rfl), by repeat (first | (with_reducible first | exact HB.out | apply below_alloc | apply pw_below_drewN | apply below_drew1) | exact HB.out)⟩
     ·
      rw [if_neg c7] at H
      exact absurd H (by simp)
    ·
     rw [if_neg c6] at H
     have c6b0 : ((t111.length : Int) == 64) = false := beq_eq_false_iff_ne.mpr c6
     have c6b1 : ((t111.length : Int) != 64) = true := bne_iff_ne.mpr c6
     obtain rfl := Option.some.inj H
     go_enter Try.func4, Try.ntmps4
     go_wp2_with (first | ((with_reducible refine gate_callee (f := 8) rfl ?_); refine goesL_ (some 6) rfl rfl Try.func8 (by kernel_rfl) rfl #[.string (⟨#[46, 100, 97, 116, 97, 46, 120]⟩ : ByteArray)] rfl (by (try simp only [List.map_toArray, List.map_cons, List.map_nil]); first | done | rfl | (simp only [List.length_drop, List.length_take]; rfl)) ?_; (with_reducible refine (sect_Kind.calls (⟨#[46, 100, 97, 116, 97, 46, 120]⟩ : ByteArray) t109 t110 _ A1.out).mono ?_); rintro e w11 ⟨rfl, hb⟩; refine ⟨_, rfl, ?_⟩; have n0_ := Aside0.mk (below_step (by repeat (first | (with_reducible first | exact HB.out | apply below_alloc | apply pw_below_drewN | apply below_drew1) | exact HB.out)) hb); clear HB; have HB := n0_; clear n0_; (try clear hb); (try clear hb2); (try clear hk); (try clear hi)) | ((with_reducible refine gate_callee (f := 7) rfl ?_); refine goesL_ (some 11) rfl rfl Try.func7 (by kernel_rfl) rfl #[.agg #[.int .i64 0, .int .i64 0, .int .i64 0, .int .i64 0, .int .i64 0, .int .i64 1, .int .i64 0, .int .i64 0, .int .i64 0, .int .i64 0]] rfl (by (try simp only [List.map_toArray, List.map_cons, List.map_nil]); first | done | rfl | (simp only [List.length_drop, List.length_take]; rfl)) ?_; (with_reducible refine (sect_Write.calls k 0 0 0 0 0 1 0 0 0 0 t111 t114 _ A2.out).mono ?_); rintro e w12 ⟨v112, rfl, ho0, hb⟩; refine ⟨_, rfl, ?_⟩; have n0_ := Aside0.mk (Kd.R_lower ho0 (below_size (by repeat (first | (with_reducible first | exact HB.out | apply below_alloc | apply pw_below_drewN | apply below_drew1) | exact HB.out)))); have n1_ := Aside0.mk (below_step (by repeat (first | (with_reducible first | exact HB.out | apply below_alloc | apply pw_below_drewN | apply below_drew1) | exact HB.out)) hb); clear HB; have HO113 := n0_; have HB := n1_; clear n0_ n1_; (try clear hb); (try clear hb2); (try clear hk); (try clear hi); (try clear ho0); obtain ⟨Ao13, co13, eo13⟩ := Kd.R_slice HO113.out; subst eo13))
     go_ret
     exact ⟨by first | rfl | (simp [errW_none, errW_some] <;> rfl) | (simp [*, errW_none, errW_some] <;> rfl), by repeat (first | (with_reducible first | exact HB.out | apply below_alloc | apply pw_below_drewN | apply below_drew1) | exact HB.out)⟩
   ·
    rw [if_neg c5] at H
    have c5b0 : (t114 == 0) = false := beq_eq_false_iff_ne.mpr c5
    have c5b1 : (t114 != 0) = true := bne_iff_ne.mpr c5
    obtain rfl := Option.some.inj H
    go_enter Try.func4, Try.ntmps4
    go_wp2_with (first | ((with_reducible refine gate_callee (f := 8) rfl ?_); refine goesL_ (some 6) rfl rfl Try.func8 (by kernel_rfl) rfl #[.string (⟨#[46, 100, 97, 116, 97, 46, 120]⟩ : ByteArray)] rfl (by (try simp only [List.map_toArray, List.map_cons, List.map_nil]); first | done | rfl | (simp only [List.length_drop, List.length_take]; rfl)) ?_; (with_reducible refine (sect_Kind.calls (⟨#[46, 100, 97, 116, 97, 46, 120]⟩ : ByteArray) t109 t110 _ A1.out).mono ?_); rintro e w14 ⟨rfl, hb⟩; refine ⟨_, rfl, ?_⟩; have n0_ := Aside0.mk (below_step (by repeat (first | (with_reducible first | exact HB.out | apply below_alloc | apply pw_below_drewN | apply below_drew1) | exact HB.out)) hb); clear HB; have HB := n0_; clear n0_; (try clear hb); (try clear hb2); (try clear hk); (try clear hi)) | ((with_reducible refine gate_callee (f := 7) rfl ?_); refine goesL_ (some 11) rfl rfl Try.func7 (by kernel_rfl) rfl #[.agg #[.int .i64 0, .int .i64 0, .int .i64 0, .int .i64 0, .int .i64 0, .int .i64 1, .int .i64 0, .int .i64 0, .int .i64 0, .int .i64 0]] rfl (by (try simp only [List.map_toArray, List.map_cons, List.map_nil]); first | done | rfl | (simp only [List.length_drop, List.length_take]; rfl)) ?_; (with_reducible refine (sect_Write.calls k 0 0 0 0 0 1 0 0 0 0 t111 t114 _ A2.out).mono ?_); rintro e w15 ⟨v112, rfl, ho0, hb⟩; refine ⟨_, rfl, ?_⟩; have n0_ := Aside0.mk (Kd.R_lower ho0 (below_size (by repeat (first | (with_reducible first | exact HB.out | apply below_alloc | apply pw_below_drewN | apply below_drew1) | exact HB.out)))); have n1_ := Aside0.mk (below_step (by repeat (first | (with_reducible first | exact HB.out | apply below_alloc | apply pw_below_drewN | apply below_drew1) | exact HB.out)) hb); clear HB; have HO113 := n0_; have HB := n1_; clear n0_ n1_; (try clear hb); (try clear hb2); (try clear hk); (try clear hi); (try clear ho0)))
    go_ret
    exact ⟨by first | rfl | (simp [errW_none, errW_some] <;> rfl) | (simp [*, errW_none, errW_some] <;> rfl), by repeat (first | (with_reducible first | exact HB.out | apply below_alloc | apply pw_below_drewN | apply below_drew1) | exact HB.out)⟩
  ·
   rw [if_neg c4] at H
   have c4b0 : (t109 == 3) = false := beq_eq_false_iff_ne.mpr c4
   have c4b1 : (t109 != 3) = true := bne_iff_ne.mpr c4
   obtain rfl := Option.some.inj H
   go_enter Try.func4, Try.ntmps4
   go_wp2_with (first | ((with_reducible refine gate_callee (f := 8) rfl ?_); refine goesL_ (some 6) rfl rfl Try.func8 (by kernel_rfl) rfl #[.string (⟨#[46, 100, 97, 116, 97, 46, 120]⟩ : ByteArray)] rfl (by (try simp only [List.map_toArray, List.map_cons, List.map_nil]); first | done | rfl | (simp only [List.length_drop, List.length_take]; rfl)) ?_; (with_reducible refine (sect_Kind.calls (⟨#[46, 100, 97, 116, 97, 46, 120]⟩ : ByteArray) t109 t110 _ A1.out).mono ?_); rintro e w16 ⟨rfl, hb⟩; refine ⟨_, rfl, ?_⟩; have n0_ := Aside0.mk (below_step (by repeat (first | (with_reducible first | exact HB.out | apply below_alloc | apply pw_below_drewN | apply below_drew1) | exact HB.out)) hb); clear HB; have HB := n0_; clear n0_; (try clear hb); (try clear hb2); (try clear hk); (try clear hi)) | ((with_reducible refine gate_callee (f := 7) rfl ?_); refine goesL_ (some 11) rfl rfl Try.func7 (by kernel_rfl) rfl #[.agg #[.int .i64 0, .int .i64 0, .int .i64 0, .int .i64 0, .int .i64 0, .int .i64 1, .int .i64 0, .int .i64 0, .int .i64 0, .int .i64 0]] rfl (by (try simp only [List.map_toArray, List.map_cons, List.map_nil]); first | done | rfl | (simp only [List.length_drop, List.length_take]; rfl)) ?_; (with_reducible refine (sect_Write.calls k 0 0 0 0 0 1 0 0 0 0 t111 t114 _ A2.out).mono ?_); rintro e w17 ⟨v112, rfl, ho0, hb⟩; refine ⟨_, rfl, ?_⟩; have n0_ := Aside0.mk (Kd.R_lower ho0 (below_size (by repeat (first | (with_reducible first | exact HB.out | apply below_alloc | apply pw_below_drewN | apply below_drew1) | exact HB.out)))); have n1_ := Aside0.mk (below_step (by repeat (first | (with_reducible first | exact HB.out | apply below_alloc | apply pw_below_drewN | apply below_drew1) | exact HB.out)) hb); clear HB; have HO113 := n0_; have HB := n1_; clear n0_ n1_; (try clear hb); (try clear hb2); (try clear hk); (try clear hi); (try clear ho0)))
   go_ret
   exact ⟨by first | rfl | (simp [errW_none, errW_some] <;> rfl) | (simp [*, errW_none, errW_some] <;> rfl), by repeat (first | (with_reducible first | exact HB.out | apply below_alloc | apply pw_below_drewN | apply below_drew1) | exact HB.out)⟩
 ·
  rw [if_neg c3] at H
  have c3b0 : (t110 == 0) = false := beq_eq_false_iff_ne.mpr c3
  have c3b1 : (t110 != 0) = true := bne_iff_ne.mpr c3
  obtain rfl := Option.some.inj H
  go_enter Try.func4, Try.ntmps4
  go_wp2_with (first | ((with_reducible refine gate_callee (f := 8) rfl ?_); refine goesL_ (some 6) rfl rfl Try.func8 (by kernel_rfl) rfl #[.string (⟨#[46, 100, 97, 116, 97, 46, 120]⟩ : ByteArray)] rfl (by (try simp only [List.map_toArray, List.map_cons, List.map_nil]); first | done | rfl | (simp only [List.length_drop, List.length_take]; rfl)) ?_; (with_reducible refine (sect_Kind.calls (⟨#[46, 100, 97, 116, 97, 46, 120]⟩ : ByteArray) t109 t110 _ A1.out).mono ?_); rintro e w18 ⟨rfl, hb⟩; refine ⟨_, rfl, ?_⟩; have n0_ := Aside0.mk (below_step (by repeat (first | (with_reducible first | exact HB.out | apply below_alloc | apply pw_below_drewN | apply below_drew1) | exact HB.out)) hb); clear HB; have HB := n0_; clear n0_; (try clear hb); (try clear hb2); (try clear hk); (try clear hi)) | ((with_reducible refine gate_callee (f := 7) rfl ?_); refine goesL_ (some 11) rfl rfl Try.func7 (by kernel_rfl) rfl #[.agg #[.int .i64 0, .int .i64 0, .int .i64 0, .int .i64 0, .int .i64 0, .int .i64 1, .int .i64 0, .int .i64 0, .int .i64 0, .int .i64 0]] rfl (by (try simp only [List.map_toArray, List.map_cons, List.map_nil]); first | done | rfl | (simp only [List.length_drop, List.length_take]; rfl)) ?_; (with_reducible refine (sect_Write.calls k 0 0 0 0 0 1 0 0 0 0 t111 t114 _ A2.out).mono ?_); rintro e w19 ⟨v112, rfl, ho0, hb⟩; refine ⟨_, rfl, ?_⟩; have n0_ := Aside0.mk (Kd.R_lower ho0 (below_size (by repeat (first | (with_reducible first | exact HB.out | apply below_alloc | apply pw_below_drewN | apply below_drew1) | exact HB.out)))); have n1_ := Aside0.mk (below_step (by repeat (first | (with_reducible first | exact HB.out | apply below_alloc | apply pw_below_drewN | apply below_drew1) | exact HB.out)) hb); clear HB; have HO113 := n0_; have HB := n1_; clear n0_ n1_; (try clear hb); (try clear hb2); (try clear hk); (try clear hi); (try clear ho0)))
  go_ret
  exact ⟨by first | rfl | (simp [errW_none, errW_some] <;> rfl) | (simp [*, errW_none, errW_some] <;> rfl), by repeat (first | (with_reducible first | exact HB.out | apply below_alloc | apply pw_below_drewN | apply below_drew1) | exact HB.out)⟩

/-! ### sect_Same: function 5 -/
def sect_Same.f (a0_0 : ByteArray) (a0_1 : Int) (l0_2 : List Int) (a0_3 : Int) (a1_0 : ByteArray) (a1_1 : Int) (l1_2 : List Int) (a1_3 : Int) : Option (Bool) := if a0_0.toList = a1_0.toList then (if a0_1 = a1_1 then (if (strOfNums l0_2).toList = (strOfNums l1_2).toList then (some (a0_3 == a1_3)) else (some false)) else (some false)) else (some false)
set_option maxHeartbeats 8000000 in
set_option maxRecDepth 100000 in
theorem sect_Same.calls (a0_0 : ByteArray) (a0_1 : Int) (A0_2 : Option Addr) (c0_2 : Nat) (l0_2 : List Int) (a0_3 : Int) (a1_0 : ByteArray) (a1_1 : Int) (A1_2 : Option Addr) (c1_2 : Nat) (l1_2 : List Int) (a1_3 : Int) (r : Bool) (w : World) (hr0_2 : Kd.C (Kd.int .u8) w A0_2 l0_2.length l0_2) (hc0_2 : l0_2.length ≤ c0_2) (hr1_2 : Kd.C (Kd.int .u8) w A1_2 l1_2.length l1_2) (hc1_2 : l1_2.length ≤ c1_2) (h : sect_Same.f a0_0 a0_1 l0_2 a0_3 a1_0 a1_1 l1_2 a1_3 = some r) :
  Calls Try.prog 5 #[.agg #[.string a0_0, .int .i64 a0_1, .slice A0_2 l0_2.length c0_2, .int .i64 a0_3], .agg #[.string a1_0, .int .i64 a1_1, .slice A1_2 l1_2.length c1_2, .int .i64 a1_3]] w fun e w' => e = .returned (.bool r) ∧ Below w.heap.size w w' := by
 have hu24 := Try.underlying24
 have HR0_2 := Aside0.mk hr0_2
 have HC0_2 := Aside0.mk hc0_2
 clear hr0_2 hc0_2
 have HR1_2 := Aside0.mk hr1_2
 have HC1_2 := Aside0.mk hc1_2
 clear hr1_2 hc1_2
 have HB := Aside0.mk (Below.refl w.heap.size w)
 have H : (if a0_0.toList = a1_0.toList then (if a0_1 = a1_1 then (if (strOfNums l0_2).toList = (strOfNums l1_2).toList then (some (a0_3 == a1_3)) else (some false)) else (some false)) else (some false)) = some r := h
 clear h
 by_cases c3 : a0_0.toList = a1_0.toList
 ·
  rw [if_pos c3] at H
  have c3b0 : (a0_0.toList == a1_0.toList) = true := beq_iff_eq.mpr c3
  have c3b1 : (a0_0.toList != a1_0.toList) = false := bne_eq_false_iff_eq.mpr c3
  clear c3
  by_cases c4 : a0_1 = a1_1
  ·
   rw [if_pos c4] at H
   have c4b0 : (a0_1 == a1_1) = true := beq_iff_eq.mpr c4
   have c4b1 : (a0_1 != a1_1) = false := bne_eq_false_iff_eq.mpr c4
   clear c4
   by_cases c5 : (strOfNums l0_2).toList = (strOfNums l1_2).toList
   ·
    rw [if_pos c5] at H
    have c5b0 : ((strOfNums l0_2).toList == (strOfNums l1_2).toList) = true := beq_iff_eq.mpr c5
    have c5b1 : ((strOfNums l0_2).toList != (strOfNums l1_2).toList) = false := bne_eq_false_iff_eq.mpr c5
    clear c5
    obtain rfl := Option.some.inj H
    go_enter Try.func5, Try.ntmps5
    go_wp2_with (first | ((with_reducible refine gate_dst (N := 2) rfl ?_); refine box_event ?hg (N := 2) ?hd (cs := #[.string a0_0, .int .i64 a0_1, .slice A0_2 l0_2.length c0_2, .int .i64 a0_3]) (t := 24) ?hr ?_; (case hd => rfl); (case hg => rfl); (case hr => first | (go_simp; done) | (go_simp; rfl)); intro gb116 hg w6 hbox hb; have n0_ := Aside0.mk (below_step (by repeat (first | (with_reducible first | exact HB.out | apply below_alloc | apply pw_below_drewN | apply below_drew1) | exact HB.out)) hb); have n1_ := Aside0.mk (hbox); have n2_ := Aside0.mk ((by rw [hg]; exact (below_size (by repeat (first | (with_reducible first | exact HB.out | apply below_alloc | apply pw_below_drewN | apply below_drew1) | exact HB.out))) : w.heap.size ≤ gb116)); have n3_ := Aside0.mk ((by rw [hg]; exact (below_size (by repeat (first | (with_reducible first | exact HB.out | apply below_alloc | apply pw_below_drewN | apply below_drew1) | exact HB.out))) : w.heap.size ≤ gb116)); clear HB; have HB := n0_; have BK116 := n1_; have GW116 := n2_; have GE116 := n3_; clear n0_ n1_ n2_ n3_; clear hb hbox hg) | ((with_reducible refine gate_dst (N := 3) rfl ?_); refine box_event ?hg (N := 3) ?hd (cs := #[.string a1_0, .int .i64 a1_1, .slice A1_2 l1_2.length c1_2, .int .i64 a1_3]) (t := 24) ?hr ?_; (case hd => rfl); (case hg => rfl); (case hr => first | (go_simp; done) | (go_simp; rfl)); intro gb117 hg w7 hbox hb; have n0_ := Aside0.mk (blk_below (g := gb116) (o := .cells #[.string a0_0, .int .i64 a0_1, .slice A0_2 l0_2.length c0_2, .int .i64 a0_3] 24 (0, 0)) (by (with_reducible repeat (first | refine blk_drewN ?_ _ | refine blk_drew ?_ | refine blk_alloc ?_ _)); exact BK116.out) hb); have n1_ := Aside0.mk (below_step (by repeat (first | (with_reducible first | exact HB.out | apply below_alloc | apply pw_below_drewN | apply below_drew1 | refine below_set ?_ GE116.out) | exact HB.out)) hb); have n2_ := Aside0.mk (hbox); have n3_ := Aside0.mk ((by rw [hg]; exact (below_size (by repeat (first | (with_reducible first | exact HB.out | apply below_alloc | apply pw_below_drewN | apply below_drew1 | refine below_set ?_ GE116.out) | exact HB.out))) : w.heap.size ≤ gb117)); have n4_ := Aside0.mk ((by rw [hg]; exact (below_size (by repeat (first | (with_reducible first | exact HB.out | apply below_alloc | apply pw_below_drewN | apply below_drew1 | refine below_set ?_ GE116.out) | exact HB.out))) : w.heap.size ≤ gb117)); have n5_ := Aside0.mk ((by rw [hg]; exact Nat.ne_of_lt (blk_lt (g := gb116) (o := .cells #[.string a0_0, .int .i64 a0_1, .slice A0_2 l0_2.length c0_2, .int .i64 a0_3] 24 (0, 0)) (by (with_reducible repeat (first | refine blk_drewN ?_ _ | refine blk_drew ?_ | refine blk_alloc ?_ _)); exact BK116.out)) : gb116 ≠ gb117)); have n6_ := Aside0.mk ((by rw [hg]; exact Nat.ne_of_gt (blk_lt (g := gb116) (o := .cells #[.string a0_0, .int .i64 a0_1, .slice A0_2 l0_2.length c0_2, .int .i64 a0_3] 24 (0, 0)) (by (with_reducible repeat (first | refine blk_drewN ?_ _ | refine blk_drew ?_ | refine blk_alloc ?_ _)); exact BK116.out)) : gb117 ≠ gb116)); clear BK116; clear HB; have BK116 := n0_; have HB := n1_; have BK117 := n2_; have GW117 := n3_; have GE117 := n4_; have NB116_117 := n5_; have NB117_116 := n6_; clear n0_ n1_ n2_ n3_ n4_ n5_ n6_; clear hb hbox hg; have hnb8 := NB116_117.out; have hnc8 := NB117_116.out; have hcz9_0 : w7.cell? ⟨gb116, 0, none⟩ = some (.string a0_0) := (blk_cell BK116.out 0).trans rfl; have hcz9_1 : w7.cell? ⟨gb116, 1, none⟩ = some (.int .i64 a0_1) := (blk_cell BK116.out 1).trans rfl; have hcz9_2 : w7.cell? ⟨gb116, 2, none⟩ = some (.slice A0_2 l0_2.length c0_2) := (blk_cell BK116.out 2).trans rfl; have hcz9_3 : w7.cell? ⟨gb116, 3, none⟩ = some (.int .i64 a0_3) := (blk_cell BK116.out 3).trans rfl; have hfz9_0 := blk_frozen BK116.out 0; have hfz9_1 := blk_frozen BK116.out 1; have hfz9_2 := blk_frozen BK116.out 2; have hfz9_3 := blk_frozen BK116.out 3; have hcz10_0 : w7.cell? ⟨gb117, 0, none⟩ = some (.string a1_0) := (blk_cell BK117.out 0).trans rfl; have hcz10_1 : w7.cell? ⟨gb117, 1, none⟩ = some (.int .i64 a1_1) := (blk_cell BK117.out 1).trans rfl; have hcz10_2 : w7.cell? ⟨gb117, 2, none⟩ = some (.slice A1_2 l1_2.length c1_2) := (blk_cell BK117.out 2).trans rfl; have hcz10_3 : w7.cell? ⟨gb117, 3, none⟩ = some (.int .i64 a1_3) := (blk_cell BK117.out 3).trans rfl; have hfz10_0 := blk_frozen BK117.out 0; have hfz10_1 := blk_frozen BK117.out 1; have hfz10_2 := blk_frozen BK117.out 2; have hfz10_3 := blk_frozen BK117.out 3; have hcv11 := Kd.C_string (P := Try.prog) (A := A0_2) (c := c0_2) Try.underlying22 Try.underlying5 Try.underlying9 (Kd.C_below HR0_2.out HB.out); have hcv12 := fun n_ : Nat => Kd.C_string (P := Try.prog) (A := A0_2) (c := c0_2) Try.underlying22 Try.underlying5 Try.underlying9 (Kd.C_drewN (Kd.C_below HR0_2.out HB.out) n_); have hcv13 := Kd.C_string (P := Try.prog) (A := A1_2) (c := c1_2) Try.underlying22 Try.underlying5 Try.underlying9 (Kd.C_below HR1_2.out HB.out); have hcv14 := fun n_ : Nat => Kd.C_string (P := Try.prog) (A := A1_2) (c := c1_2) Try.underlying22 Try.underlying5 Try.underlying9 (Kd.C_drewN (Kd.C_below HR1_2.out HB.out) n_)))
    go_ret
    exact ⟨by first | rfl | (simp [errW_none, errW_some] <;> rfl) | (simp [*, errW_none, errW_some] <;> rfl), by repeat (first | (with_reducible first | exact HB.out | apply below_alloc | apply pw_below_drewN | apply below_drew1 | refine below_set ?_ GE116.out | refine below_set ?_ GE117.out) | exact HB.out)⟩
   ·
    rw [if_neg c5] at H
    have c5b0 : ((strOfNums l0_2).toList == (strOfNums l1_2).toList) = false := beq_eq_false_iff_ne.mpr c5
    have c5b1 : ((strOfNums l0_2).toList != (strOfNums l1_2).toList) = true := bne_iff_ne.mpr c5
    obtain rfl := Option.some.inj H
    go_enter Try.func5, Try.ntmps5
    go_wp2_with (first | ((with_reducible refine gate_dst (N := 2) rfl ?_); refine box_event ?hg (N := 2) ?hd (cs := #[.string a0_0, .int .i64 a0_1, .slice A0_2 l0_2.length c0_2, .int .i64 a0_3]) (t := 24) ?hr ?_; (case hd => rfl); (case hg => rfl); (case hr => first | (go_simp; done) | (go_simp; rfl)); intro gb116 hg w15 hbox hb; have n0_ := Aside0.mk (below_step (by repeat (first | (with_reducible first | exact HB.out | apply below_alloc | apply pw_below_drewN | apply below_drew1) | exact HB.out)) hb); have n1_ := Aside0.mk (hbox); have n2_ := Aside0.mk ((by rw [hg]; exact (below_size (by repeat (first | (with_reducible first | exact HB.out | apply below_alloc | apply pw_below_drewN | apply below_drew1) | exact HB.out))) : w.heap.size ≤ gb116)); have n3_ := Aside0.mk ((by rw [hg]; exact (below_size (by repeat (first | (with_reducible first | exact HB.out | apply below_alloc | apply pw_below_drewN | apply below_drew1) | exact HB.out))) : w.heap.size ≤ gb116)); clear HB; have HB := n0_; have BK116 := n1_; have GW116 := n2_; have GE116 := n3_; clear n0_ n1_ n2_ n3_; clear hb hbox hg) | ((with_reducible refine gate_dst (N := 3) rfl ?_); refine box_event ?hg (N := 3) ?hd (cs := #[.string a1_0, .int .i64 a1_1, .slice A1_2 l1_2.length c1_2, .int .i64 a1_3]) (t := 24) ?hr ?_; (case hd => rfl); (case hg => rfl); (case hr => first | (go_simp; done) | (go_simp; rfl)); intro gb117 hg w16 hbox hb; have n0_ := Aside0.mk (blk_below (g := gb116) (o := .cells #[.string a0_0, .int .i64 a0_1, .slice A0_2 l0_2.length c0_2, .int .i64 a0_3] 24 (0, 0)) (by (with_reducible repeat (first | refine blk_drewN ?_ _ | refine blk_drew ?_ | refine blk_alloc ?_ _)); exact BK116.out) hb); have n1_ := Aside0.mk (below_step (by repeat (first | (with_reducible first | exact HB.out | apply below_alloc | apply pw_below_drewN | apply below_drew1 | refine below_set ?_ GE116.out) | exact HB.out)) hb); have n2_ := Aside0.mk (hbox); have n3_ := Aside0.mk ((by rw [hg]; exact (below_size (by repeat (first | (with_reducible first | exact HB.out | apply below_alloc | apply pw_below_drewN | apply below_drew1 | refine below_set ?_ GE116.out) | exact HB.out))) : w.heap.size ≤ gb117)); have n4_ := Aside0.mk ((by rw [hg]; exact (below_size (by repeat (first | (with_reducible first | exact HB.out | apply below_alloc | apply pw_below_drewN | apply below_drew1 | refine below_set ?_ GE116.out) | exact HB.out))) : w.heap.size ≤ gb117)); have n5_ := Aside0.mk ((by rw [hg]; exact Nat.ne_of_lt (blk_lt (g := gb116) (o := .cells #[.string a0_0, .int .i64 a0_1, .slice A0_2 l0_2.length c0_2, .int .i64 a0_3] 24 (0, 0)) (by (with_reducible repeat (first | refine blk_drewN ?_ _ | refine blk_drew ?_ | refine blk_alloc ?_ _)); exact BK116.out)) : gb116 ≠ gb117)); have n6_ := Aside0.mk ((by rw [hg]; exact Nat.ne_of_gt (blk_lt (g := gb116) (o := .cells #[.string a0_0, .int .i64 a0_1, .slice A0_2 l0_2.length c0_2, .int .i64 a0_3] 24 (0, 0)) (by (with_reducible repeat (first | refine blk_drewN ?_ _ | refine blk_drew ?_ | refine blk_alloc ?_ _)); exact BK116.out)) : gb117 ≠ gb116)); clear BK116; clear HB; have BK116 := n0_; have HB := n1_; have BK117 := n2_; have GW117 := n3_; have GE117 := n4_; have NB116_117 := n5_; have NB117_116 := n6_; clear n0_ n1_ n2_ n3_ n4_ n5_ n6_; clear hb hbox hg; have hnb17 := NB116_117.out; have hnc17 := NB117_116.out; have hcz18_0 : w16.cell? ⟨gb116, 0, none⟩ = some (.string a0_0) := (blk_cell BK116.out 0).trans rfl; have hcz18_1 : w16.cell? ⟨gb116, 1, none⟩ = some (.int .i64 a0_1) := (blk_cell BK116.out 1).trans rfl; have hcz18_2 : w16.cell? ⟨gb116, 2, none⟩ = some (.slice A0_2 l0_2.length c0_2) := (blk_cell BK116.out 2).trans rfl; have hcz18_3 : w16.cell? ⟨gb116, 3, none⟩ = some (.int .i64 a0_3) := (blk_cell BK116.out 3).trans rfl; have hfz18_0 := blk_frozen BK116.out 0; have hfz18_1 := blk_frozen BK116.out 1; have hfz18_2 := blk_frozen BK116.out 2; have hfz18_3 := blk_frozen BK116.out 3; have hcz19_0 : w16.cell? ⟨gb117, 0, none⟩ = some (.string a1_0) := (blk_cell BK117.out 0).trans rfl; have hcz19_1 : w16.cell? ⟨gb117, 1, none⟩ = some (.int .i64 a1_1) := (blk_cell BK117.out 1).trans rfl; have hcz19_2 : w16.cell? ⟨gb117, 2, none⟩ = some (.slice A1_2 l1_2.length c1_2) := (blk_cell BK117.out 2).trans rfl; have hcz19_3 : w16.cell? ⟨gb117, 3, none⟩ = some (.int .i64 a1_3) := (blk_cell BK117.out 3).trans rfl; have hfz19_0 := blk_frozen BK117.out 0; have hfz19_1 := blk_frozen BK117.out 1; have hfz19_2 := blk_frozen BK117.out 2; have hfz19_3 := blk_frozen BK117.out 3; have hcv20 := Kd.C_string (P := Try.prog) (A := A0_2) (c := c0_2) Try.underlying22 Try.underlying5 Try.underlying9 (Kd.C_below HR0_2.out HB.out); have hcv21 := fun n_ : Nat => Kd.C_string (P := Try.prog) (A := A0_2) (c := c0_2) Try.underlying22 Try.underlying5 Try.underlying9 (Kd.C_drewN (Kd.C_below HR0_2.out HB.out) n_); have hcv22 := Kd.C_string (P := Try.prog) (A := A1_2) (c := c1_2) Try.underlying22 Try.underlying5 Try.underlying9 (Kd.C_below HR1_2.out HB.out); have hcv23 := fun n_ : Nat => Kd.C_string (P := Try.prog) (A := A1_2) (c := c1_2) Try.underlying22 Try.underlying5 Try.underlying9 (Kd.C_drewN (Kd.C_below HR1_2.out HB.out) n_)))
    go_ret
    exact ⟨by first | rfl | (simp [errW_none, errW_some] <;> rfl) | (simp [*, errW_none, errW_some] <;> rfl), by repeat (first | (with_reducible first | exact HB.out | apply below_alloc | apply pw_below_drewN | apply below_drew1 | refine below_set ?_ GE116.out | refine below_set ?_ GE117.out) | exact HB.out)⟩
  ·
   rw [if_neg c4] at H
   have c4b0 : (a0_1 == a1_1) = false := beq_eq_false_iff_ne.mpr c4
   have c4b1 : (a0_1 != a1_1) = true := bne_iff_ne.mpr c4
   obtain rfl := Option.some.inj H
   go_enter Try.func5, Try.ntmps5
   go_wp2_with (first | ((with_reducible refine gate_dst (N := 2) rfl ?_); refine box_event ?hg (N := 2) ?hd (cs := #[.string a0_0, .int .i64 a0_1, .slice A0_2 l0_2.length c0_2, .int .i64 a0_3]) (t := 24) ?hr ?_; (case hd => rfl); (case hg => rfl); (case hr => first | (go_simp; done) | (go_simp; rfl)); intro gb116 hg w24 hbox hb; have n0_ := Aside0.mk (below_step (by repeat (first | (with_reducible first | exact HB.out | apply below_alloc | apply pw_below_drewN | apply below_drew1) | exact HB.out)) hb); have n1_ := Aside0.mk (hbox); have n2_ := Aside0.mk ((by rw [hg]; exact (below_size (by repeat (first | (with_reducible first | exact HB.out | apply below_alloc | apply pw_below_drewN | apply below_drew1) | exact HB.out))) : w.heap.size ≤ gb116)); have n3_ := Aside0.mk ((by rw [hg]; exact (below_size (by repeat (first | (with_reducible first | exact HB.out | apply below_alloc | apply pw_below_drewN | apply below_drew1) | exact HB.out))) : w.heap.size ≤ gb116)); clear HB; have HB := n0_; have BK116 := n1_; have GW116 := n2_; have GE116 := n3_; clear n0_ n1_ n2_ n3_; clear hb hbox hg) | ((with_reducible refine gate_dst (N := 3) rfl ?_); refine box_event ?hg (N := 3) ?hd (cs := #[.string a1_0, .int .i64 a1_1, .slice A1_2 l1_2.length c1_2, .int .i64 a1_3]) (t := 24) ?hr ?_; (case hd => rfl); (case hg => rfl); (case hr => first | (go_simp; done) | (go_simp; rfl)); intro gb117 hg w25 hbox hb; have n0_ := Aside0.mk (blk_below (g := gb116) (o := .cells #[.string a0_0, .int .i64 a0_1, .slice A0_2 l0_2.length c0_2, .int .i64 a0_3] 24 (0, 0)) (by (with_reducible repeat (first | refine blk_drewN ?_ _ | refine blk_drew ?_ | refine blk_alloc ?_ _)); exact BK116.out) hb); have n1_ := Aside0.mk (below_step (by repeat (first | (with_reducible first | exact HB.out | apply below_alloc | apply pw_below_drewN | apply below_drew1 | refine below_set ?_ GE116.out) | exact HB.out)) hb); have n2_ := Aside0.mk (hbox); have n3_ := Aside0.mk ((by rw [hg]; exact (below_size (by repeat (first | (with_reducible first | exact HB.out | apply below_alloc | apply pw_below_drewN | apply below_drew1 | refine below_set ?_ GE116.out) | exact HB.out))) : w.heap.size ≤ gb117)); have n4_ := Aside0.mk ((by rw [hg]; exact (below_size (by repeat (first | (with_reducible first | exact HB.out | apply below_alloc | apply pw_below_drewN | apply below_drew1 | refine below_set ?_ GE116.out) | exact HB.out))) : w.heap.size ≤ gb117)); have n5_ := Aside0.mk ((by rw [hg]; exact Nat.ne_of_lt (blk_lt (g := gb116) (o := .cells #[.string a0_0, .int .i64 a0_1, .slice A0_2 l0_2.length c0_2, .int .i64 a0_3] 24 (0, 0)) (by (with_reducible repeat (first | refine blk_drewN ?_ _ | refine blk_drew ?_ | refine blk_alloc ?_ _)); exact BK116.out)) : gb116 ≠ gb117)); have n6_ := Aside0.mk ((by rw [hg]; exact Nat.ne_of_gt (blk_lt (g := gb116) (o := .cells #[.string a0_0, .int .i64 a0_1, .slice A0_2 l0_2.length c0_2, .int .i64 a0_3] 24 (0, 0)) (by (with_reducible repeat (first | refine blk_drewN ?_ _ | refine blk_drew ?_ | refine blk_alloc ?_ _)); exact BK116.out)) : gb117 ≠ gb116)); clear BK116; clear HB; have BK116 := n0_; have HB := n1_; have BK117 := n2_; have GW117 := n3_; have GE117 := n4_; have NB116_117 := n5_; have NB117_116 := n6_; clear n0_ n1_ n2_ n3_ n4_ n5_ n6_; clear hb hbox hg; have hnb26 := NB116_117.out; have hnc26 := NB117_116.out; have hcz27_0 : w25.cell? ⟨gb116, 0, none⟩ = some (.string a0_0) := (blk_cell BK116.out 0).trans rfl; have hcz27_1 : w25.cell? ⟨gb116, 1, none⟩ = some (.int .i64 a0_1) := (blk_cell BK116.out 1).trans rfl; have hcz27_2 : w25.cell? ⟨gb116, 2, none⟩ = some (.slice A0_2 l0_2.length c0_2) := (blk_cell BK116.out 2).trans rfl; have hcz27_3 : w25.cell? ⟨gb116, 3, none⟩ = some (.int .i64 a0_3) := (blk_cell BK116.out 3).trans rfl; have hfz27_0 := blk_frozen BK116.out 0; have hfz27_1 := blk_frozen BK116.out 1; have hfz27_2 := blk_frozen BK116.out 2; have hfz27_3 := blk_frozen BK116.out 3; have hcz28_0 : w25.cell? ⟨gb117, 0, none⟩ = some (.string a1_0) := (blk_cell BK117.out 0).trans rfl; have hcz28_1 : w25.cell? ⟨gb117, 1, none⟩ = some (.int .i64 a1_1) := (blk_cell BK117.out 1).trans rfl; have hcz28_2 : w25.cell? ⟨gb117, 2, none⟩ = some (.slice A1_2 l1_2.length c1_2) := (blk_cell BK117.out 2).trans rfl; have hcz28_3 : w25.cell? ⟨gb117, 3, none⟩ = some (.int .i64 a1_3) := (blk_cell BK117.out 3).trans rfl; have hfz28_0 := blk_frozen BK117.out 0; have hfz28_1 := blk_frozen BK117.out 1; have hfz28_2 := blk_frozen BK117.out 2; have hfz28_3 := blk_frozen BK117.out 3))
   go_ret
   exact ⟨by first | rfl | (simp [errW_none, errW_some] <;> rfl) | (simp [*, errW_none, errW_some] <;> rfl), by repeat (first | (with_reducible first | exact HB.out | apply below_alloc | apply pw_below_drewN | apply below_drew1 | refine below_set ?_ GE116.out | refine below_set ?_ GE117.out) | exact HB.out)⟩
 ·
  rw [if_neg c3] at H
  have c3b0 : (a0_0.toList == a1_0.toList) = false := beq_eq_false_iff_ne.mpr c3
  have c3b1 : (a0_0.toList != a1_0.toList) = true := bne_iff_ne.mpr c3
  obtain rfl := Option.some.inj H
  go_enter Try.func5, Try.ntmps5
  go_wp2_with (first | ((with_reducible refine gate_dst (N := 2) rfl ?_); refine box_event ?hg (N := 2) ?hd (cs := #[.string a0_0, .int .i64 a0_1, .slice A0_2 l0_2.length c0_2, .int .i64 a0_3]) (t := 24) ?hr ?_; (case hd => rfl); (case hg => rfl); (case hr => first | (go_simp; done) | (go_simp; rfl)); intro gb116 hg w29 hbox hb; have n0_ := Aside0.mk (below_step (by repeat (first | (with_reducible first | exact HB.out | apply below_alloc | apply pw_below_drewN | apply below_drew1) | exact HB.out)) hb); have n1_ := Aside0.mk (hbox); have n2_ := Aside0.mk ((by rw [hg]; exact (below_size (by repeat (first | (with_reducible first | exact HB.out | apply below_alloc | apply pw_below_drewN | apply below_drew1) | exact HB.out))) : w.heap.size ≤ gb116)); have n3_ := Aside0.mk ((by rw [hg]; exact (below_size (by repeat (first | (with_reducible first | exact HB.out | apply below_alloc | apply pw_below_drewN | apply below_drew1) | exact HB.out))) : w.heap.size ≤ gb116)); clear HB; have HB := n0_; have BK116 := n1_; have GW116 := n2_; have GE116 := n3_; clear n0_ n1_ n2_ n3_; clear hb hbox hg) | ((with_reducible refine gate_dst (N := 3) rfl ?_); refine box_event ?hg (N := 3) ?hd (cs := #[.string a1_0, .int .i64 a1_1, .slice A1_2 l1_2.length c1_2, .int .i64 a1_3]) (t := 24) ?hr ?_; (case hd => rfl); (case hg => rfl); (case hr => first | (go_simp; done) | (go_simp; rfl)); intro gb117 hg w30 hbox hb; have n0_ := Aside0.mk (blk_below (g := gb116) (o := .cells #[.string a0_0, .int .i64 a0_1, .slice A0_2 l0_2.length c0_2, .int .i64 a0_3] 24 (0, 0)) (by (with_reducible repeat (first | refine blk_drewN ?_ _ | refine blk_drew ?_ | refine blk_alloc ?_ _)); exact BK116.out) hb); have n1_ := Aside0.mk (below_step (by repeat (first | (with_reducible first | exact HB.out | apply below_alloc | apply pw_below_drewN | apply below_drew1 | refine below_set ?_ GE116.out) | exact HB.out)) hb); have n2_ := Aside0.mk (hbox); have n3_ := Aside0.mk ((by rw [hg]; exact (below_size (by repeat (first | (with_reducible first | exact HB.out | apply below_alloc | apply pw_below_drewN | apply below_drew1 | refine below_set ?_ GE116.out) | exact HB.out))) : w.heap.size ≤ gb117)); have n4_ := Aside0.mk ((by rw [hg]; exact (below_size (by repeat (first | (with_reducible first | exact HB.out | apply below_alloc | apply pw_below_drewN | apply below_drew1 | refine below_set ?_ GE116.out) | exact HB.out))) : w.heap.size ≤ gb117)); have n5_ := Aside0.mk ((by rw [hg]; exact Nat.ne_of_lt (blk_lt (g := gb116) (o := .cells #[.string a0_0, .int .i64 a0_1, .slice A0_2 l0_2.length c0_2, .int .i64 a0_3] 24 (0, 0)) (by (with_reducible repeat (first | refine blk_drewN ?_ _ | refine blk_drew ?_ | refine blk_alloc ?_ _)); exact BK116.out)) : gb116 ≠ gb117)); have n6_ := Aside0.mk ((by rw [hg]; exact Nat.ne_of_gt (blk_lt (g := gb116) (o := .cells #[.string a0_0, .int .i64 a0_1, .slice A0_2 l0_2.length c0_2, .int .i64 a0_3] 24 (0, 0)) (by (with_reducible repeat (first | refine blk_drewN ?_ _ | refine blk_drew ?_ | refine blk_alloc ?_ _)); exact BK116.out)) : gb117 ≠ gb116)); clear BK116; clear HB; have BK116 := n0_; have HB := n1_; have BK117 := n2_; have GW117 := n3_; have GE117 := n4_; have NB116_117 := n5_; have NB117_116 := n6_; clear n0_ n1_ n2_ n3_ n4_ n5_ n6_; clear hb hbox hg; have hnb31 := NB116_117.out; have hnc31 := NB117_116.out; have hcz32_0 : w30.cell? ⟨gb116, 0, none⟩ = some (.string a0_0) := (blk_cell BK116.out 0).trans rfl; have hcz32_1 : w30.cell? ⟨gb116, 1, none⟩ = some (.int .i64 a0_1) := (blk_cell BK116.out 1).trans rfl; have hcz32_2 : w30.cell? ⟨gb116, 2, none⟩ = some (.slice A0_2 l0_2.length c0_2) := (blk_cell BK116.out 2).trans rfl; have hcz32_3 : w30.cell? ⟨gb116, 3, none⟩ = some (.int .i64 a0_3) := (blk_cell BK116.out 3).trans rfl; have hfz32_0 := blk_frozen BK116.out 0; have hfz32_1 := blk_frozen BK116.out 1; have hfz32_2 := blk_frozen BK116.out 2; have hfz32_3 := blk_frozen BK116.out 3; have hcz33_0 : w30.cell? ⟨gb117, 0, none⟩ = some (.string a1_0) := (blk_cell BK117.out 0).trans rfl; have hcz33_1 : w30.cell? ⟨gb117, 1, none⟩ = some (.int .i64 a1_1) := (blk_cell BK117.out 1).trans rfl; have hcz33_2 : w30.cell? ⟨gb117, 2, none⟩ = some (.slice A1_2 l1_2.length c1_2) := (blk_cell BK117.out 2).trans rfl; have hcz33_3 : w30.cell? ⟨gb117, 3, none⟩ = some (.int .i64 a1_3) := (blk_cell BK117.out 3).trans rfl; have hfz33_0 := blk_frozen BK117.out 0; have hfz33_1 := blk_frozen BK117.out 1; have hfz33_2 := blk_frozen BK117.out 2; have hfz33_3 := blk_frozen BK117.out 3))
  go_ret
  exact ⟨by first | rfl | (simp [errW_none, errW_some] <;> rfl) | (simp [*, errW_none, errW_some] <;> rfl), by repeat (first | (with_reducible first | exact HB.out | apply below_alloc | apply pw_below_drewN | apply below_drew1 | refine below_set ?_ GE116.out | refine below_set ?_ GE117.out) | exact HB.out)⟩

end Go.Proofs.Ytdhkmaiidbomdac.P
