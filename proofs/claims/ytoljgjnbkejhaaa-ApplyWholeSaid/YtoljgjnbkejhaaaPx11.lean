-- Written by pext.py, a program of this session, over the kit's print: a function's contract
import Derived.Test.YtoljgjnbkejhaaaPx0
import Derived.Test.YtoljgjnbkejhaaaPx1
import Derived.Test.YtoljgjnbkejhaaaPx3
import Derived.Test.YtoljgjnbkejhaaaPx4
import Derived.Test.YtoljgjnbkejhaaaPx5
namespace Go.Proofs.Ytoljgjnbkejhaaa.P
open Go.RowKit Go.Proofs.YtoljgjnbkejhaaaW.PrintWords Go.Proofs.YtoljgjnbkejhaaaW.PrintLast Go.Proofs.YtoljgjnbkejhaaaW.PrintMore
attribute [local go_sem] max2_int min2_int max_two min_two max_three min_three max_four min_four   -- for this text's walks alone
set_option linter.unusedVariables false
set_option linter.unusedSimpArgs false

/-! ### quoinlaw26_ApplyWhole: function 6 -/
mutual
def quoinlaw26_ApplyWhole.j0 : Nat → List Int → Int → Int → Int → Bool → List Int → List Int → Bool → Option (Bool)
 | 0, _, _, _, _, _, _, _, _ => none
 | k + 1, x0, x1, x2, x3, x9, x10, x12, x50 => if x50 = true then (some x9) else ((quoinlaw26_sums.f x1).bind fun t364 => (if t364 = true then (if x1 > 36 then (if x9 = true then (some ((x10.length : Int) == (x0.length : Int))) else (none)) else ((apply_Fix.f k x10 ((((x1 + 37) % 256) - 33) % 256) x2).bind fun bt365 => (if x9 = true then (if bt365.2 = 0 then (some ((strOfNums bt365.1).toList == (strOfNums x0).toList)) else (none)) else (none)))) else ((apply_Fix.f k x10 x1 x3).bind fun bt369 => (if bt369.2 = 0 then (if (strOfNums bt369.1).toList = (strOfNums x12).toList then (if x1 = 43 then (quoinlaw26_ApplyWhole.j1 k x1 x2 x3 x9 x10 x12 bt369.1 bt369.2 true) else (quoinlaw26_ApplyWhole.j1 k x1 x2 x3 x9 x10 x12 bt369.1 bt369.2 (x1 == 51))) else (quoinlaw26_ApplyWhole.j1 k x1 x2 x3 x9 x10 x12 bt369.1 bt369.2 true)) else (quoinlaw26_ApplyWhole.j1 k x1 x2 x3 x9 x10 x12 bt369.1 bt369.2 true)))))
def quoinlaw26_ApplyWhole.j1 : Nat → Int → Int → Int → Bool → List Int → List Int → List Int → Int → Bool → Option (Bool)
 | 0, _, _, _, _, _, _, _, _, _ => none
 | k + 1, x1, x2, x3, x9, x10, x12, x16, x17, x108 => if x108 = true then (if x9 = true then (if x17 = 0 then (some ((strOfNums x16).toList == (strOfNums x12).toList)) else (none)) else (none)) else (if x1 = 1 then (if x9 = true then (if (strOfNums x10).toList = (strOfNums x12).toList then (some (((x2) % 4294967296) == ((x3) % 4294967296))) else (some (!(((x2) % 4294967296) == ((x3) % 4294967296))))) else (none)) else ((apply_High.f x2).bind fun bt373 => ((apply_High.f x3).bind fun bt375 => ((apply_Low.f x2).bind fun bt377 => ((apply_Low.f x3).bind fun bt379 => (if x1 = 26 then (quoinlaw26_ApplyWhole.j2 k x2 x3 x9 x10 x12 bt373.1 bt373.2 bt375.1 bt375.2 bt377.1 bt379.1 x1 (x1 == 26)) else (quoinlaw26_ApplyWhole.j2 k x2 x3 x9 x10 x12 bt373.1 bt373.2 bt375.1 bt375.2 bt377.1 bt379.1 x1 (x1 == 23))))))))
def quoinlaw26_ApplyWhole.j2 : Nat → Int → Int → Bool → List Int → List Int → Int → Int → Int → Int → Int → Int → Int → Bool → Option (Bool)
 | 0, _, _, _, _, _, _, _, _, _, _, _, _, _ => none
 | k + 1, x2, x3, x9, x10, x12, x18, x19, x20, x21, x22, x24, x157, x158 => if x158 = true then (if x9 = true then (if x19 = 0 then (if x21 = 0 then (if (strOfNums x10).toList = (strOfNums x12).toList then (some (x18 == x20)) else (some (!(x18 == x20)))) else (none)) else (none)) else (none)) else (if x157 = 27 then (if x9 = true then (if (strOfNums x10).toList = (strOfNums x12).toList then (some (x22 == x24)) else (some (!(x22 == x24)))) else (none)) else (if x157 = 28 then (if x9 = true then (if (strOfNums x10).toList = (strOfNums x12).toList then (some (x22 == x24)) else (some (!(x22 == x24)))) else (none)) else (if x157 = 24 then (if x9 = true then (if (strOfNums x10).toList = (strOfNums x12).toList then (some (x22 == x24)) else (some (!(x22 == x24)))) else (none)) else (if x157 = 25 then (if x9 = true then (if (strOfNums x10).toList = (strOfNums x12).toList then (some (x22 == x24)) else (some (!(x22 == x24)))) else (none)) else (if x9 = true then (if (strOfNums x10).toList = (strOfNums x12).toList then (some (x2 == x3)) else (some (!(x2 == x3)))) else (none))))))
end
def quoinlaw26_ApplyWhole.f (k : Nat) (l0 : List Int) (a1 : Int) (a2 : Int) (a3 : Int) : Option (Bool) := (quoinlaw26_alive.f k).bind fun t355 => (if (l0.length : Int) > 1000 then (some t355) else ((apply_Fix.f k l0 a1 a2).bind fun bt356 => ((apply_Fix.f k l0 a1 a3).bind fun bt360 => (if bt356.2 = 0 then (quoinlaw26_ApplyWhole.j0 k l0 a1 a2 a3 t355 bt356.1 bt360.1 (bt360.2 != 0)) else (quoinlaw26_ApplyWhole.j0 k l0 a1 a2 a3 t355 bt356.1 bt360.1 true)))))
theorem quoinlaw26_ApplyWhole.mono_l : ∀ k, (∀ y0 y1 y2 y3 y4 y5 y6 y7, LeO (quoinlaw26_ApplyWhole.j0 k y0 y1 y2 y3 y4 y5 y6 y7) (quoinlaw26_ApplyWhole.j0 (k + 1) y0 y1 y2 y3 y4 y5 y6 y7)) ∧ (∀ y0 y1 y2 y3 y4 y5 y6 y7 y8, LeO (quoinlaw26_ApplyWhole.j1 k y0 y1 y2 y3 y4 y5 y6 y7 y8) (quoinlaw26_ApplyWhole.j1 (k + 1) y0 y1 y2 y3 y4 y5 y6 y7 y8)) ∧ (∀ y0 y1 y2 y3 y4 y5 y6 y7 y8 y9 y10 y11 y12, LeO (quoinlaw26_ApplyWhole.j2 k y0 y1 y2 y3 y4 y5 y6 y7 y8 y9 y10 y11 y12) (quoinlaw26_ApplyWhole.j2 (k + 1) y0 y1 y2 y3 y4 y5 y6 y7 y8 y9 y10 y11 y12))
 | 0 => ⟨fun _ _ _ _ _ _ _ _ r h => by simp [quoinlaw26_ApplyWhole.j0] at h, fun _ _ _ _ _ _ _ _ _ r h => by simp [quoinlaw26_ApplyWhole.j1] at h, fun _ _ _ _ _ _ _ _ _ _ _ _ _ r h => by simp [quoinlaw26_ApplyWhole.j2] at h⟩
 | k + 1 => by
  obtain ⟨ih0, ih1, ih2⟩ := quoinlaw26_ApplyWhole.mono_l k
  refine ⟨?_, ?_, ?_⟩
  ·
   intro y0 y1 y2 y3 y4 y5 y6 y7
   unfold quoinlaw26_ApplyWhole.j0
   repeat' first
   | (with_reducible exact ih0 _ _ _ _ _ _ _ _)
   | (with_reducible exact ih1 _ _ _ _ _ _ _ _ _)
   | (with_reducible exact ih2 _ _ _ _ _ _ _ _ _ _ _ _ _)
   | (with_reducible exact apply_Fix.mono _ _ _ _)
   | (with_reducible exact quoinlaw26_alive.mono _)
   | (with_reducible exact LeO.refl _)
   | (with_reducible exact LeO.none _)
   | (with_reducible refine LeO.ite ?_ ?_)
   | (with_reducible refine LeO.bind ?_ (fun _ => ?_))
   | exact ih0 _ _ _ _ _ _ _ _
   | exact ih1 _ _ _ _ _ _ _ _ _
   | exact ih2 _ _ _ _ _ _ _ _ _ _ _ _ _
   | exact apply_Fix.mono _ _ _ _
   | exact quoinlaw26_alive.mono _
   | exact LeO.none _
   | refine LeO.ite ?_ ?_
   | refine LeO.bind ?_ (fun _ => ?_)
  ·
   intro y0 y1 y2 y3 y4 y5 y6 y7 y8
   unfold quoinlaw26_ApplyWhole.j1
   repeat' first
   | (with_reducible exact ih0 _ _ _ _ _ _ _ _)
   | (with_reducible exact ih1 _ _ _ _ _ _ _ _ _)
   | (with_reducible exact ih2 _ _ _ _ _ _ _ _ _ _ _ _ _)
   | (with_reducible exact apply_Fix.mono _ _ _ _)
   | (with_reducible exact quoinlaw26_alive.mono _)
   | (with_reducible exact LeO.refl _)
   | (with_reducible exact LeO.none _)
   | (with_reducible refine LeO.ite ?_ ?_)
   | (with_reducible refine LeO.bind ?_ (fun _ => ?_))
   | exact ih0 _ _ _ _ _ _ _ _
   | exact ih1 _ _ _ _ _ _ _ _ _
   | exact ih2 _ _ _ _ _ _ _ _ _ _ _ _ _
   | exact apply_Fix.mono _ _ _ _
   | exact quoinlaw26_alive.mono _
   | exact LeO.none _
   | refine LeO.ite ?_ ?_
   | refine LeO.bind ?_ (fun _ => ?_)
  ·
   intro y0 y1 y2 y3 y4 y5 y6 y7 y8 y9 y10 y11 y12
   unfold quoinlaw26_ApplyWhole.j2
   repeat' first
   | (with_reducible exact ih0 _ _ _ _ _ _ _ _)
   | (with_reducible exact ih1 _ _ _ _ _ _ _ _ _)
   | (with_reducible exact ih2 _ _ _ _ _ _ _ _ _ _ _ _ _)
   | (with_reducible exact apply_Fix.mono _ _ _ _)
   | (with_reducible exact quoinlaw26_alive.mono _)
   | (with_reducible exact LeO.refl _)
   | (with_reducible exact LeO.none _)
   | (with_reducible refine LeO.ite ?_ ?_)
   | (with_reducible refine LeO.bind ?_ (fun _ => ?_))
   | exact ih0 _ _ _ _ _ _ _ _
   | exact ih1 _ _ _ _ _ _ _ _ _
   | exact ih2 _ _ _ _ _ _ _ _ _ _ _ _ _
   | exact apply_Fix.mono _ _ _ _
   | exact quoinlaw26_alive.mono _
   | exact LeO.none _
   | refine LeO.ite ?_ ?_
   | refine LeO.bind ?_ (fun _ => ?_)
theorem quoinlaw26_ApplyWhole.mono : ∀ a0 a1 a2 a3 k, LeO (quoinlaw26_ApplyWhole.f k a0 a1 a2 a3) (quoinlaw26_ApplyWhole.f (k + 1) a0 a1 a2 a3) := by
 intro a0 a1 a2 a3 k
 obtain ⟨ih0, ih1, ih2⟩ := quoinlaw26_ApplyWhole.mono_l k
 unfold quoinlaw26_ApplyWhole.f
 repeat' first
   | (with_reducible exact ih0 _ _ _ _ _ _ _ _)
   | (with_reducible exact ih1 _ _ _ _ _ _ _ _ _)
   | (with_reducible exact ih2 _ _ _ _ _ _ _ _ _ _ _ _ _)
   | (with_reducible exact apply_Fix.mono _ _ _ _)
   | (with_reducible exact quoinlaw26_alive.mono _)
   | (with_reducible exact LeO.refl _)
   | (with_reducible exact LeO.none _)
   | (with_reducible refine LeO.ite ?_ ?_)
   | (with_reducible refine LeO.bind ?_ (fun _ => ?_))
   | exact ih0 _ _ _ _ _ _ _ _
   | exact ih1 _ _ _ _ _ _ _ _ _
   | exact ih2 _ _ _ _ _ _ _ _ _ _ _ _ _
   | exact apply_Fix.mono _ _ _ _
   | exact quoinlaw26_alive.mono _
   | exact LeO.none _
   | refine LeO.ite ?_ ?_
   | refine LeO.bind ?_ (fun _ => ?_)
set_option maxHeartbeats 8000000 in
set_option maxRecDepth 100000 in
theorem quoinlaw26_ApplyWhole.calls (k : Nat) (A0 : Option Addr) (c0 : Nat) (l0 : List Int) (a1 : Int) (a2 : Int) (a3 : Int) (r : Bool) (w : World) (hr0 : Kd.C (Kd.int .u8) w A0 l0.length l0) (hc0 : l0.length ≤ c0) (h : quoinlaw26_ApplyWhole.f k l0 a1 a2 a3 = some r) :
  Calls Try.prog 6 #[.slice A0 l0.length c0, .int .u8 a1, .int .i64 a2, .int .i64 a3] w fun e w' => e = .returned (.bool r) ∧ Below w.heap.size w w' := by
 have HR0 := Aside0.mk hr0
 have HC0 := Aside0.mk hc0
 clear hr0 hc0
 have HB := Aside0.mk (Below.refl w.heap.size w)
 have H : ((quoinlaw26_alive.f k).bind fun t355 => (if (l0.length : Int) > 1000 then (some t355) else ((apply_Fix.f k l0 a1 a2).bind fun bt356 => ((apply_Fix.f k l0 a1 a3).bind fun bt360 => (if bt356.2 = 0 then (quoinlaw26_ApplyWhole.j0 k l0 a1 a2 a3 t355 bt356.1 bt360.1 (bt360.2 != 0)) else (quoinlaw26_ApplyWhole.j0 k l0 a1 a2 a3 t355 bt356.1 bt360.1 true)))))) = some r := h
 clear h
 replace H := Option.bind_eq_some_iff.mp H
 obtain ⟨t355, A50, H⟩ := H
 replace H : (if (l0.length : Int) > 1000 then (some t355) else ((apply_Fix.f k l0 a1 a2).bind fun bt356 => ((apply_Fix.f k l0 a1 a3).bind fun bt360 => (if bt356.2 = 0 then (quoinlaw26_ApplyWhole.j0 k l0 a1 a2 a3 t355 bt356.1 bt360.1 (bt360.2 != 0)) else (quoinlaw26_ApplyWhole.j0 k l0 a1 a2 a3 t355 bt356.1 bt360.1 true))))) = some r := H
 have A5 := Aside0.mk A50
 clear A50
 by_cases c6 : (l0.length : Int) > 1000
 ·
  rw [if_pos c6] at H
  have c6b0 : decide (1000 < (l0.length : Int)) = true := decide_eq_true c6
  have c6b1 : decide (1000 < l0.length) = true := decide_eq_true (by omega)
  clear c6
  obtain rfl := Option.some.inj H
  go_enter Try.func6, Try.ntmps6
  go_wp2_with (first | ((with_reducible refine gate_callee (f := 12) rfl ?_); refine goesL_ (some 26) rfl rfl Try.func12 (by kernel_rfl) rfl #[] rfl (by (try simp only [List.map_toArray, List.map_cons, List.map_nil]); first | done | rfl | (simp only [List.length_drop, List.length_take]; rfl)) ?_; (with_reducible refine (quoinlaw26_alive.calls k  t355 _ A5.out).mono ?_); rintro e w7 ⟨rfl, hb⟩; refine ⟨_, rfl, ?_⟩; have n0_ := Aside0.mk (below_step (by repeat (first | (with_reducible first | exact HB.out | apply below_alloc | apply pw_below_drewN | apply below_drew1) | exact HB.out)) hb); clear HB; have HB := n0_; clear n0_; (try clear hb); (try clear hb2); (try clear hk); (try clear hi)))
  go_ret
  exact ⟨by first | rfl | (simp [errW_none, errW_some] <;> rfl) | (simp [*, errW_none, errW_some] <;> rfl), by repeat (first | (with_reducible first | exact HB.out | apply below_alloc | apply pw_below_drewN | apply below_drew1) | exact HB.out)⟩
 ·
  rw [if_neg c6] at H
  have c6b0 : decide (1000 < (l0.length : Int)) = false := decide_eq_false c6
  have c6b1 : decide (1000 < l0.length) = false := decide_eq_false (by omega)
  clear c6
  replace H := Option.bind_eq_some_iff.mp H
  obtain ⟨⟨t356, t357⟩, A80, H⟩ := H
  replace H : ((apply_Fix.f k l0 a1 a3).bind fun bt360 => (if t357 = 0 then (quoinlaw26_ApplyWhole.j0 k l0 a1 a2 a3 t355 t356 bt360.1 (bt360.2 != 0)) else (quoinlaw26_ApplyWhole.j0 k l0 a1 a2 a3 t355 t356 bt360.1 true))) = some r := H
  have A8 := Aside0.mk A80
  clear A80
  replace H := Option.bind_eq_some_iff.mp H
  obtain ⟨⟨t360, t361⟩, A90, H⟩ := H
  replace H : (if t357 = 0 then (quoinlaw26_ApplyWhole.j0 k l0 a1 a2 a3 t355 t356 t360 (t361 != 0)) else (quoinlaw26_ApplyWhole.j0 k l0 a1 a2 a3 t355 t356 t360 true)) = some r := H
  have A9 := Aside0.mk A90
  clear A90
  have HC10 := Aside0.mk H
  clear H
  go_enter Try.func6, Try.ntmps6
  go_upto_region 6 with (first | ((with_reducible refine gate_callee (f := 12) rfl ?_); refine goesL_ (some 26) rfl rfl Try.func12 (by kernel_rfl) rfl #[] rfl (by (try simp only [List.map_toArray, List.map_cons, List.map_nil]); first | done | rfl | (simp only [List.length_drop, List.length_take]; rfl)) ?_; (with_reducible refine (quoinlaw26_alive.calls k  t355 _ A5.out).mono ?_); rintro e w11 ⟨rfl, hb⟩; refine ⟨_, rfl, ?_⟩; have n0_ := Aside0.mk (below_step (by repeat (first | (with_reducible first | exact HB.out | apply below_alloc | apply pw_below_drewN | apply below_drew1) | exact HB.out)) hb); clear HB; have HB := n0_; clear n0_; (try clear hb); (try clear hb2); (try clear hk); (try clear hi)) | ((with_reducible refine gate_callee (f := 11) rfl ?_); refine goesL_ (some 35) rfl rfl Try.func11 (by kernel_rfl) rfl #[.slice A0 l0.length c0, .int .u8 a1, .int .i64 a2] rfl (by (try simp only [List.map_toArray, List.map_cons, List.map_nil]); first | done | rfl | (simp only [List.length_drop, List.length_take]; rfl)) ?_; (with_reducible refine (apply_Fix.calls k _ _ l0 a1 a2 t356 t357 _ ?side1 ?side2 A8.out).mono ?_); (case side1 => repeat (first | exact (Kd.C_below HR0.out HB.out) | (with_reducible refine Kd.C_alloc ?_ _) | (with_reducible refine Kd.C_drewN ?_ _) | (with_reducible refine Kd.C_drew ?_))); (case side2 => exact HC0.out); rintro e w12 ⟨v358, rfl, ho0, hb⟩; refine ⟨_, rfl, ?_⟩; have n0_ := Aside0.mk (Kd.Q_lower ho0 (below_size (by repeat (first | (with_reducible first | exact HB.out | apply below_alloc | apply pw_below_drewN | apply below_drew1) | exact HB.out)))); have n1_ := Aside0.mk (below_step (by repeat (first | (with_reducible first | exact HB.out | apply below_alloc | apply pw_below_drewN | apply below_drew1) | exact HB.out)) hb); clear HB; have HO359 := n0_; have HB := n1_; clear n0_ n1_; (try clear hb); (try clear hb2); (try clear hk); (try clear hi); (try clear ho0)) | ((with_reducible refine gate_callee (f := 11) rfl ?_); refine goesL_ (some 42) rfl rfl Try.func11 (by kernel_rfl) rfl #[.slice A0 l0.length c0, .int .u8 a1, .int .i64 a3] rfl (by (try simp only [List.map_toArray, List.map_cons, List.map_nil]); first | done | rfl | (simp only [List.length_drop, List.length_take]; rfl)) ?_; (with_reducible refine (apply_Fix.calls k _ _ l0 a1 a3 t360 t361 _ ?side1 ?side2 A9.out).mono ?_); (case side1 => repeat (first | exact (Kd.C_below HR0.out HB.out) | (with_reducible refine Kd.C_alloc ?_ _) | (with_reducible refine Kd.C_drewN ?_ _) | (with_reducible refine Kd.C_drew ?_))); (case side2 => exact HC0.out); rintro e w13 ⟨v362, rfl, ho0, hb⟩; refine ⟨_, rfl, ?_⟩; have n0_ := Aside0.mk (Kd.Q_elder' (by (with_reducible repeat (first | apply Kd.Q_alloc | apply Kd.Q_drewN | apply Kd.Q_drew)); exact HO359.out) (Kd.Q_base ho0) hb); have n1_ := Aside0.mk (Kd.Q_lower (Kd.Q_new' ho0 (Kd.Q_lt (by (with_reducible repeat (first | apply Kd.Q_alloc | apply Kd.Q_drewN | apply Kd.Q_drew)); exact HO359.out))) (below_size (by repeat (first | (with_reducible first | exact HB.out | apply below_alloc | apply pw_below_drewN | apply below_drew1) | exact HB.out)))); have n2_ := Aside0.mk (below_step (by repeat (first | (with_reducible first | exact HB.out | apply below_alloc | apply pw_below_drewN | apply below_drew1) | exact HB.out)) hb); clear HO359; clear HB; have HO359 := n0_; have HO363 := n1_; have HB := n2_; clear n0_ n1_ n2_; (try clear hb); (try clear hb2); (try clear hk); (try clear hi); (try clear ho0)))
  (try simp only [Act.put, List.setIfInBounds_toArray, List.set_cons_zero, List.set_cons_succ])
  go_cut [50] (fun v50 wc => ∃ (kq : Nat) (x50_9 : Bool), v50 = .bool x50_9 ∧ Aside0 (quoinlaw26_ApplyWhole.j0 kq l0 a1 a2 a3 t355 t356 t360 x50_9 = some r) ∧ Aside0 (kq ≤ k) ∧ Aside0 (Kd.Q (Kd.int .u8) 5 wc w.heap.size (fun k_ => some k_ ≠ (v362 : Value).ownBlock) v358 t356) ∧ Aside0 (Kd.Q (Kd.int .u8) 5 wc w.heap.size (fun k_ => some k_ ≠ (v358 : Value).ownBlock) v362 t360) ∧ Aside0 (Below w.heap.size w wc))
  case first =>
   have H := HC10.out
   clear HC10
   by_cases c14 : t357 = 0
   ·
    rw [if_pos c14] at H
    have c14b0 : (t357 == 0) = true := beq_iff_eq.mpr c14
    have c14b1 : (t357 != 0) = false := bne_eq_false_iff_eq.mpr c14
    clear c14
    (first | rw [c14b0] | (simp only [i64_w, i32_w]; rw [c14b0]) | skip)
    have H' := Aside0.mk H
    clear H
    go_wp2
    go_meet
    case rel => exact ⟨_, ((t361 != 0)), (by first | rfl | (simp; done) | (simp [*]; done)), H', ⟨by first | omega | exact Nat.le_refl _⟩, ⟨by (with_reducible repeat (first | apply Kd.Q_alloc | apply Kd.Q_drewN | apply Kd.Q_drew)); exact Kd.Q_mono HO359.out (fun _ hk => hk.2)⟩, ⟨by (with_reducible repeat (first | apply Kd.Q_alloc | apply Kd.Q_drewN | apply Kd.Q_drew)); exact Kd.Q_mono HO363.out (fun _ hk => hk.2)⟩, ⟨by repeat (first | (with_reducible first | exact HB.out | apply below_alloc | apply pw_below_drewN | apply below_drew1) | exact HB.out)⟩⟩
   ·
    rw [if_neg c14] at H
    have c14b0 : (t357 == 0) = false := beq_eq_false_iff_ne.mpr c14
    have c14b1 : (t357 != 0) = true := bne_iff_ne.mpr c14
    (first | rw [c14b0] | (simp only [i64_w, i32_w]; rw [c14b0]) | skip)
    have H' := Aside0.mk H
    clear H
    go_wp2
    go_meet
    case rel => exact ⟨_, (true), (by first | rfl | (simp; done) | (simp [*]; done)), H', ⟨by first | omega | exact Nat.le_refl _⟩, ⟨by (with_reducible repeat (first | apply Kd.Q_alloc | apply Kd.Q_drewN | apply Kd.Q_drew)); exact Kd.Q_mono HO359.out (fun _ hk => hk.2)⟩, ⟨by (with_reducible repeat (first | apply Kd.Q_alloc | apply Kd.Q_drewN | apply Kd.Q_drew)); exact Kd.Q_mono HO363.out (fun _ hk => hk.2)⟩, ⟨by repeat (first | (with_reducible first | exact HB.out | apply below_alloc | apply pw_below_drewN | apply below_drew1) | exact HB.out)⟩⟩
  case rest =>
   clear HC10
   try clear c1
   try clear p2
   try clear c6
   try clear c6b0
   try clear c6b1
   try clear c11
   try clear c12
   try clear c14
   try clear c14b0
   try clear c14b1
   obtain ⟨kq, x50_9, rfl, HA, HJ9, HO_10, HO_12, HB⟩ := hcut
   cases kq with
   | zero => exact absurd HA.out (by simp [quoinlaw26_ApplyWhole.j0])
   | succ kj9 =>
    have H := HA.out
    clear HA
    simp only [quoinlaw26_ApplyWhole.j0] at H
    by_cases c15 : x50_9 = true
    ·
     subst c15
     have H1 : (some t355) = some r := by rw [if_pos rfl] at H; exact H
     clear H
     have H := H1
     clear H1
     obtain rfl := Option.some.inj H
     go_wp2
     go_ret
     exact ⟨by first | rfl | (simp [errW_none, errW_some] <;> rfl) | (simp [*, errW_none, errW_some] <;> rfl), by repeat (first | (with_reducible first | exact HB.out | apply below_alloc | apply pw_below_drewN | apply below_drew1) | exact HB.out)⟩
    ·
     replace c15 := Bool.eq_false_iff.mpr c15
     subst c15
     have H1 : ((quoinlaw26_sums.f a1).bind fun t364 => (if t364 = true then (if a1 > 36 then (if t355 = true then (some ((t356.length : Int) == (l0.length : Int))) else (none)) else ((apply_Fix.f kj9 t356 ((((a1 + 37) % 256) - 33) % 256) a2).bind fun bt365 => (if t355 = true then (if bt365.2 = 0 then (some ((strOfNums bt365.1).toList == (strOfNums l0).toList)) else (none)) else (none)))) else ((apply_Fix.f kj9 t356 a1 a3).bind fun bt369 => (if bt369.2 = 0 then (if (strOfNums bt369.1).toList = (strOfNums t360).toList then (if a1 = 43 then (quoinlaw26_ApplyWhole.j1 kj9 a1 a2 a3 t355 t356 t360 bt369.1 bt369.2 true) else (quoinlaw26_ApplyWhole.j1 kj9 a1 a2 a3 t355 t356 t360 bt369.1 bt369.2 (a1 == 51))) else (quoinlaw26_ApplyWhole.j1 kj9 a1 a2 a3 t355 t356 t360 bt369.1 bt369.2 true)) else (quoinlaw26_ApplyWhole.j1 kj9 a1 a2 a3 t355 t356 t360 bt369.1 bt369.2 true))))) = some r := by rw [if_neg (show ¬ (false = true) by decide)] at H; exact H
     clear H
     have H := H1
     clear H1
     replace H := Option.bind_eq_some_iff.mp H
     obtain ⟨t364, A160, H⟩ := H
     replace H : (if t364 = true then (if a1 > 36 then (if t355 = true then (some ((t356.length : Int) == (l0.length : Int))) else (none)) else ((apply_Fix.f kj9 t356 ((((a1 + 37) % 256) - 33) % 256) a2).bind fun bt365 => (if t355 = true then (if bt365.2 = 0 then (some ((strOfNums bt365.1).toList == (strOfNums l0).toList)) else (none)) else (none)))) else ((apply_Fix.f kj9 t356 a1 a3).bind fun bt369 => (if bt369.2 = 0 then (if (strOfNums bt369.1).toList = (strOfNums t360).toList then (if a1 = 43 then (quoinlaw26_ApplyWhole.j1 kj9 a1 a2 a3 t355 t356 t360 bt369.1 bt369.2 true) else (quoinlaw26_ApplyWhole.j1 kj9 a1 a2 a3 t355 t356 t360 bt369.1 bt369.2 (a1 == 51))) else (quoinlaw26_ApplyWhole.j1 kj9 a1 a2 a3 t355 t356 t360 bt369.1 bt369.2 true)) else (quoinlaw26_ApplyWhole.j1 kj9 a1 a2 a3 t355 t356 t360 bt369.1 bt369.2 true)))) = some r := H
     have A16 := Aside0.mk A160
     clear A160
     by_cases c17 : t364 = true
     ·
      subst c17
      have H1 : (if a1 > 36 then (if t355 = true then (some ((t356.length : Int) == (l0.length : Int))) else (none)) else ((apply_Fix.f kj9 t356 ((((a1 + 37) % 256) - 33) % 256) a2).bind fun bt365 => (if t355 = true then (if bt365.2 = 0 then (some ((strOfNums bt365.1).toList == (strOfNums l0).toList)) else (none)) else (none)))) = some r := by rw [if_pos rfl] at H; exact H
      clear H
      have H := H1
      clear H1
      by_cases c18 : a1 > 36
      ·
       rw [if_pos c18] at H
       have c18b0 : decide (36 < a1) = true := decide_eq_true c18
       clear c18
       by_cases c19 : t355 = true
       ·
        subst c19
        have H1 : (some ((t356.length : Int) == (l0.length : Int))) = some r := by rw [if_pos rfl] at H; exact H
        clear H
        have H := H1
        clear H1
        obtain rfl := Option.some.inj H
        go_wp2_with (first | ((with_reducible refine gate_callee (f := 16) rfl ?_); refine goesL_ (some 53) rfl rfl Try.func16 (by kernel_rfl) rfl #[.int .u8 a1] rfl (by (try simp only [List.map_toArray, List.map_cons, List.map_nil]); first | done | rfl | (simp only [List.length_drop, List.length_take]; rfl)) ?_; (with_reducible refine (quoinlaw26_sums.calls a1 true _ A16.out).mono ?_); rintro e w' ⟨rfl, ⟨nd, rfl⟩⟩; refine ⟨_, rfl, ?_⟩; obtain ⟨Ao20, co20, eo20, _⟩ := Kd.Q_slice HO_10.out; subst eo20))
        go_ret
        exact ⟨by first | rfl | (simp [errW_none, errW_some] <;> rfl) | (simp [*, errW_none, errW_some] <;> rfl), by repeat (first | (with_reducible first | exact HB.out | apply below_alloc | apply pw_below_drewN | apply below_drew1) | exact HB.out)⟩
       ·
        replace c19 := Bool.eq_false_iff.mpr c19
        subst c19
        have H1 : (none) = some r := by rw [if_neg (show ¬ (false = true) by decide)] at H; exact H
        clear H
        have H := H1
        clear H1
        exact absurd H (by simp)
      ·
       rw [if_neg c18] at H
       have c18b0 : decide (36 < a1) = false := decide_eq_false c18
       clear c18
       replace H := Option.bind_eq_some_iff.mp H
       obtain ⟨⟨t365, t366⟩, A210, H⟩ := H
       replace H : (if t355 = true then (if t366 = 0 then (some ((strOfNums t365).toList == (strOfNums l0).toList)) else (none)) else (none)) = some r := H
       have A21 := Aside0.mk A210
       clear A210
       by_cases c22 : t355 = true
       ·
        subst c22
        have H1 : (if t366 = 0 then (some ((strOfNums t365).toList == (strOfNums l0).toList)) else (none)) = some r := by rw [if_pos rfl] at H; exact H
        clear H
        have H := H1
        clear H1
        by_cases c23 : t366 = 0
        ·
         rw [if_pos c23] at H
         have c23b0 : (t366 == 0) = true := beq_iff_eq.mpr c23
         have c23b1 : (t366 != 0) = false := bne_eq_false_iff_eq.mpr c23
         clear c23
         obtain rfl := Option.some.inj H
         go_wp2_with (first | ((with_reducible refine gate_callee (f := 16) rfl ?_); refine goesL_ (some 53) rfl rfl Try.func16 (by kernel_rfl) rfl #[.int .u8 a1] rfl (by (try simp only [List.map_toArray, List.map_cons, List.map_nil]); first | done | rfl | (simp only [List.length_drop, List.length_take]; rfl)) ?_; (with_reducible refine (quoinlaw26_sums.calls a1 true _ A16.out).mono ?_); rintro e w' ⟨rfl, ⟨nd, rfl⟩⟩; refine ⟨_, rfl, ?_⟩; obtain ⟨Ao24, co24, eo24, _⟩ := Kd.Q_slice HO_10.out; subst eo24) | ((with_reducible refine gate_callee (f := 11) rfl ?_); refine goesL_ (some 70) rfl rfl Try.func11 (by kernel_rfl) rfl #[.slice Ao24 t356.length co24, .int .u8 ((((a1 + 37) % 256) - 33) % 256), .int .i64 a2] rfl (by (try simp only [List.map_toArray, List.map_cons, List.map_nil]); first | done | rfl | (simp only [List.length_drop, List.length_take]; rfl)) ?_; (with_reducible refine (apply_Fix.calls kj9 _ _ t356 ((((a1 + 37) % 256) - 33) % 256) a2 t365 t366 _ ?side1 ?side2 A21.out).mono ?_); (case side1 => repeat (first | exact (Kd.Q_reads' HO_10.out).2.2 | (with_reducible refine Kd.C_alloc ?_ _) | (with_reducible refine Kd.C_drewN ?_ _) | (with_reducible refine Kd.C_drew ?_))); (case side2 => exact (Kd.Q_reads' HO_10.out).2.1); rintro e w25 ⟨v367, rfl, ho0, hb⟩; refine ⟨_, rfl, ?_⟩; have n0_ := Aside0.mk (Kd.Q_elder' (by (with_reducible repeat (first | apply Kd.Q_alloc | apply Kd.Q_drewN | apply Kd.Q_drew)); exact HO_10.out) (Kd.Q_base ho0) hb); have n1_ := Aside0.mk (Kd.Q_elder' (by (with_reducible repeat (first | apply Kd.Q_alloc | apply Kd.Q_drewN | apply Kd.Q_drew)); exact HO_12.out) (Kd.Q_base ho0) hb); have n2_ := Aside0.mk (Kd.Q_lower (Kd.Q_new' (Kd.Q_new' ho0 (Kd.Q_lt (by (with_reducible repeat (first | apply Kd.Q_alloc | apply Kd.Q_drewN | apply Kd.Q_drew)); exact HO_10.out))) (Kd.Q_lt (by (with_reducible repeat (first | apply Kd.Q_alloc | apply Kd.Q_drewN | apply Kd.Q_drew)); exact HO_12.out))) (below_size (by repeat (first | (with_reducible first | exact HB.out | apply below_alloc | apply pw_below_drewN | apply below_drew1) | exact HB.out)))); have n3_ := Aside0.mk (below_step (by repeat (first | (with_reducible first | exact HB.out | apply below_alloc | apply pw_below_drewN | apply below_drew1) | exact HB.out)) hb); clear HO_10; clear HO_12; clear HB; have HO_10 := n0_; have HO_12 := n1_; have HO368 := n2_; have HB := n3_; clear n0_ n1_ n2_ n3_; (try clear hb); (try clear hb2); (try clear hk); (try clear hi); (try clear ho0); have hcv26 := Kd.Q_string (P := Try.prog) Try.underlying25 Try.underlying5 Try.underlying9 (HO368.out); have hcv27 := fun n_ : Nat => Kd.Q_string (P := Try.prog) Try.underlying25 Try.underlying5 Try.underlying9 ((Kd.Q_drewN HO368.out n_)); have hcv28 := Kd.C_string (P := Try.prog) (A := A0) (c := c0) Try.underlying25 Try.underlying5 Try.underlying9 (Kd.C_below HR0.out HB.out); have hcv29 := fun n_ : Nat => Kd.C_string (P := Try.prog) (A := A0) (c := c0) Try.underlying25 Try.underlying5 Try.underlying9 (Kd.C_drewN (Kd.C_below HR0.out HB.out) n_)))
         go_ret
         exact ⟨by first | rfl | (simp [errW_none, errW_some] <;> rfl) | (simp [*, errW_none, errW_some] <;> rfl), by repeat (first | (with_reducible first | exact HB.out | apply below_alloc | apply pw_below_drewN | apply below_drew1) | exact HB.out)⟩
        ·
         rw [if_neg c23] at H
         exact absurd H (by simp)
       ·
        replace c22 := Bool.eq_false_iff.mpr c22
        subst c22
        have H1 : (none) = some r := by rw [if_neg (show ¬ (false = true) by decide)] at H; exact H
        clear H
        have H := H1
        clear H1
        exact absurd H (by simp)
     ·
      replace c17 := Bool.eq_false_iff.mpr c17
      subst c17
      have H1 : ((apply_Fix.f kj9 t356 a1 a3).bind fun bt369 => (if bt369.2 = 0 then (if (strOfNums bt369.1).toList = (strOfNums t360).toList then (if a1 = 43 then (quoinlaw26_ApplyWhole.j1 kj9 a1 a2 a3 t355 t356 t360 bt369.1 bt369.2 true) else (quoinlaw26_ApplyWhole.j1 kj9 a1 a2 a3 t355 t356 t360 bt369.1 bt369.2 (a1 == 51))) else (quoinlaw26_ApplyWhole.j1 kj9 a1 a2 a3 t355 t356 t360 bt369.1 bt369.2 true)) else (quoinlaw26_ApplyWhole.j1 kj9 a1 a2 a3 t355 t356 t360 bt369.1 bt369.2 true))) = some r := by rw [if_neg (show ¬ (false = true) by decide)] at H; exact H
      clear H
      have H := H1
      clear H1
      replace H := Option.bind_eq_some_iff.mp H
      obtain ⟨⟨t369, t370⟩, A300, H⟩ := H
      replace H : (if t370 = 0 then (if (strOfNums t369).toList = (strOfNums t360).toList then (if a1 = 43 then (quoinlaw26_ApplyWhole.j1 kj9 a1 a2 a3 t355 t356 t360 t369 t370 true) else (quoinlaw26_ApplyWhole.j1 kj9 a1 a2 a3 t355 t356 t360 t369 t370 (a1 == 51))) else (quoinlaw26_ApplyWhole.j1 kj9 a1 a2 a3 t355 t356 t360 t369 t370 true)) else (quoinlaw26_ApplyWhole.j1 kj9 a1 a2 a3 t355 t356 t360 t369 t370 true)) = some r := H
      have A30 := Aside0.mk A300
      clear A300
      have HC31 := Aside0.mk H
      clear H
      go_upto_region 14 with (first | ((with_reducible refine gate_callee (f := 16) rfl ?_); refine goesL_ (some 53) rfl rfl Try.func16 (by kernel_rfl) rfl #[.int .u8 a1] rfl (by (try simp only [List.map_toArray, List.map_cons, List.map_nil]); first | done | rfl | (simp only [List.length_drop, List.length_take]; rfl)) ?_; (with_reducible refine (quoinlaw26_sums.calls a1 false _ A16.out).mono ?_); rintro e w' ⟨rfl, ⟨nd, rfl⟩⟩; refine ⟨_, rfl, ?_⟩; obtain ⟨Ao32, co32, eo32, _⟩ := Kd.Q_slice HO_10.out; subst eo32) | ((with_reducible refine gate_callee (f := 11) rfl ?_); refine goesL_ (some 89) rfl rfl Try.func11 (by kernel_rfl) rfl #[.slice Ao32 t356.length co32, .int .u8 a1, .int .i64 a3] rfl (by (try simp only [List.map_toArray, List.map_cons, List.map_nil]); first | done | rfl | (simp only [List.length_drop, List.length_take]; rfl)) ?_; (with_reducible refine (apply_Fix.calls kj9 _ _ t356 a1 a3 t369 t370 _ ?side1 ?side2 A30.out).mono ?_); (case side1 => repeat (first | exact (Kd.Q_reads' HO_10.out).2.2 | (with_reducible refine Kd.C_alloc ?_ _) | (with_reducible refine Kd.C_drewN ?_ _) | (with_reducible refine Kd.C_drew ?_))); (case side2 => exact (Kd.Q_reads' HO_10.out).2.1); rintro e w33 ⟨v371, rfl, ho0, hb⟩; refine ⟨_, rfl, ?_⟩; have n0_ := Aside0.mk (Kd.Q_elder' (by (with_reducible repeat (first | apply Kd.Q_alloc | apply Kd.Q_drewN | apply Kd.Q_drew)); exact HO_10.out) (Kd.Q_base ho0) hb); have n1_ := Aside0.mk (Kd.Q_elder' (by (with_reducible repeat (first | apply Kd.Q_alloc | apply Kd.Q_drewN | apply Kd.Q_drew)); exact HO_12.out) (Kd.Q_base ho0) hb); have n2_ := Aside0.mk (Kd.Q_lower (Kd.Q_new' (Kd.Q_new' ho0 (Kd.Q_lt (by (with_reducible repeat (first | apply Kd.Q_alloc | apply Kd.Q_drewN | apply Kd.Q_drew)); exact HO_10.out))) (Kd.Q_lt (by (with_reducible repeat (first | apply Kd.Q_alloc | apply Kd.Q_drewN | apply Kd.Q_drew)); exact HO_12.out))) (below_size (by repeat (first | (with_reducible first | exact HB.out | apply below_alloc | apply pw_below_drewN | apply below_drew1) | exact HB.out)))); have n3_ := Aside0.mk (below_step (by repeat (first | (with_reducible first | exact HB.out | apply below_alloc | apply pw_below_drewN | apply below_drew1) | exact HB.out)) hb); clear HO_10; clear HO_12; clear HB; have HO_10 := n0_; have HO_12 := n1_; have HO372 := n2_; have HB := n3_; clear n0_ n1_ n2_ n3_; (try clear hb); (try clear hb2); (try clear hk); (try clear hi); (try clear ho0)))
      (try simp only [Act.put, List.setIfInBounds_toArray, List.set_cons_zero, List.set_cons_succ])
      go_cut [108] (fun v108 wc => ∃ (kq : Nat) (x108_30 : Bool), v108 = .bool x108_30 ∧ Aside0 (quoinlaw26_ApplyWhole.j1 kq a1 a2 a3 t355 t356 t360 t369 t370 x108_30 = some r) ∧ Aside0 (kq ≤ kj9) ∧ Aside0 (Kd.Q (Kd.int .u8) 5 wc w.heap.size (fun k_ => some k_ ≠ (v362 : Value).ownBlock ∧ some k_ ≠ (v371 : Value).ownBlock) (.slice Ao32 t356.length co32) t356) ∧ Aside0 (Kd.Q (Kd.int .u8) 5 wc w.heap.size (fun k_ => some k_ ≠ ((.slice Ao32 t356.length co32) : Value).ownBlock ∧ some k_ ≠ (v371 : Value).ownBlock) v362 t360) ∧ Aside0 (Kd.Q (Kd.int .u8) 5 wc w.heap.size (fun k_ => some k_ ≠ ((.slice Ao32 t356.length co32) : Value).ownBlock ∧ some k_ ≠ (v362 : Value).ownBlock) v371 t369) ∧ Aside0 (Below w.heap.size w wc))
      case first =>
       have H := HC31.out
       clear HC31
       by_cases c34 : t370 = 0
       ·
        rw [if_pos c34] at H
        have c34b0 : (t370 == 0) = true := beq_iff_eq.mpr c34
        have c34b1 : (t370 != 0) = false := bne_eq_false_iff_eq.mpr c34
        clear c34
        (first | rw [c34b0] | (simp only [i64_w, i32_w]; rw [c34b0]) | skip)
        by_cases c35 : (strOfNums t369).toList = (strOfNums t360).toList
        ·
         rw [if_pos c35] at H
         have c35b0 : ((strOfNums t369).toList == (strOfNums t360).toList) = true := beq_iff_eq.mpr c35
         have c35b1 : ((strOfNums t369).toList != (strOfNums t360).toList) = false := bne_eq_false_iff_eq.mpr c35
         clear c35
         by_cases c36 : a1 = 43
         ·
          rw [if_pos c36] at H
          have c36b0 : (a1 == 43) = true := beq_iff_eq.mpr c36
          have c36b1 : (a1 != 43) = false := bne_eq_false_iff_eq.mpr c36
          clear c36
          have H' := Aside0.mk H
          clear H
          have hcv37 := Kd.Q_string (P := Try.prog) Try.underlying25 Try.underlying5 Try.underlying9 (HO372.out)
          have hcv38 := fun n_ : Nat => Kd.Q_string (P := Try.prog) Try.underlying25 Try.underlying5 Try.underlying9 ((Kd.Q_drewN HO372.out n_))
          have hcv39 := Kd.Q_string (P := Try.prog) Try.underlying25 Try.underlying5 Try.underlying9 (HO_12.out)
          have hcv40 := fun n_ : Nat => Kd.Q_string (P := Try.prog) Try.underlying25 Try.underlying5 Try.underlying9 ((Kd.Q_drewN HO_12.out n_))
          go_wp2
          go_meet
          case rel => exact ⟨_, (true), (by first | rfl | (simp; done) | (simp [*]; done)), H', ⟨by have := HJ9.out; first | omega | exact Nat.le_refl _⟩, ⟨by (with_reducible repeat (first | apply Kd.Q_alloc | apply Kd.Q_drewN | apply Kd.Q_drew)); exact HO_10.out⟩, ⟨by (with_reducible repeat (first | apply Kd.Q_alloc | apply Kd.Q_drewN | apply Kd.Q_drew)); exact HO_12.out⟩, ⟨by (with_reducible repeat (first | apply Kd.Q_alloc | apply Kd.Q_drewN | apply Kd.Q_drew)); exact Kd.Q_mono HO372.out (fun _ hk => ⟨hk.1.2, hk.2⟩)⟩, ⟨by repeat (first | (with_reducible first | exact HB.out | apply below_alloc | apply pw_below_drewN | apply below_drew1) | exact HB.out)⟩⟩
         ·
          rw [if_neg c36] at H
          have c36b0 : (a1 == 43) = false := beq_eq_false_iff_ne.mpr c36
          have c36b1 : (a1 != 43) = true := bne_iff_ne.mpr c36
          have H' := Aside0.mk H
          clear H
          have hcv41 := Kd.Q_string (P := Try.prog) Try.underlying25 Try.underlying5 Try.underlying9 (HO372.out)
          have hcv42 := fun n_ : Nat => Kd.Q_string (P := Try.prog) Try.underlying25 Try.underlying5 Try.underlying9 ((Kd.Q_drewN HO372.out n_))
          have hcv43 := Kd.Q_string (P := Try.prog) Try.underlying25 Try.underlying5 Try.underlying9 (HO_12.out)
          have hcv44 := fun n_ : Nat => Kd.Q_string (P := Try.prog) Try.underlying25 Try.underlying5 Try.underlying9 ((Kd.Q_drewN HO_12.out n_))
          go_wp2
          go_meet
          case rel => exact ⟨_, ((a1 == 51)), (by first | rfl | (simp; done) | (simp [*]; done)), H', ⟨by have := HJ9.out; first | omega | exact Nat.le_refl _⟩, ⟨by (with_reducible repeat (first | apply Kd.Q_alloc | apply Kd.Q_drewN | apply Kd.Q_drew)); exact HO_10.out⟩, ⟨by (with_reducible repeat (first | apply Kd.Q_alloc | apply Kd.Q_drewN | apply Kd.Q_drew)); exact HO_12.out⟩, ⟨by (with_reducible repeat (first | apply Kd.Q_alloc | apply Kd.Q_drewN | apply Kd.Q_drew)); exact Kd.Q_mono HO372.out (fun _ hk => ⟨hk.1.2, hk.2⟩)⟩, ⟨by repeat (first | (with_reducible first | exact HB.out | apply below_alloc | apply pw_below_drewN | apply below_drew1) | exact HB.out)⟩⟩
        ·
         rw [if_neg c35] at H
         have c35b0 : ((strOfNums t369).toList == (strOfNums t360).toList) = false := beq_eq_false_iff_ne.mpr c35
         have c35b1 : ((strOfNums t369).toList != (strOfNums t360).toList) = true := bne_iff_ne.mpr c35
         have H' := Aside0.mk H
         clear H
         have hcv45 := Kd.Q_string (P := Try.prog) Try.underlying25 Try.underlying5 Try.underlying9 (HO372.out)
         have hcv46 := fun n_ : Nat => Kd.Q_string (P := Try.prog) Try.underlying25 Try.underlying5 Try.underlying9 ((Kd.Q_drewN HO372.out n_))
         have hcv47 := Kd.Q_string (P := Try.prog) Try.underlying25 Try.underlying5 Try.underlying9 (HO_12.out)
         have hcv48 := fun n_ : Nat => Kd.Q_string (P := Try.prog) Try.underlying25 Try.underlying5 Try.underlying9 ((Kd.Q_drewN HO_12.out n_))
         go_wp2
         go_meet
         case rel => exact ⟨_, (true), (by first | rfl | (simp; done) | (simp [*]; done)), H', ⟨by have := HJ9.out; first | omega | exact Nat.le_refl _⟩, ⟨by (with_reducible repeat (first | apply Kd.Q_alloc | apply Kd.Q_drewN | apply Kd.Q_drew)); exact HO_10.out⟩, ⟨by (with_reducible repeat (first | apply Kd.Q_alloc | apply Kd.Q_drewN | apply Kd.Q_drew)); exact HO_12.out⟩, ⟨by (with_reducible repeat (first | apply Kd.Q_alloc | apply Kd.Q_drewN | apply Kd.Q_drew)); exact Kd.Q_mono HO372.out (fun _ hk => ⟨hk.1.2, hk.2⟩)⟩, ⟨by repeat (first | (with_reducible first | exact HB.out | apply below_alloc | apply pw_below_drewN | apply below_drew1) | exact HB.out)⟩⟩
       ·
        rw [if_neg c34] at H
        have c34b0 : (t370 == 0) = false := beq_eq_false_iff_ne.mpr c34
        have c34b1 : (t370 != 0) = true := bne_iff_ne.mpr c34
        (first | rw [c34b0] | (simp only [i64_w, i32_w]; rw [c34b0]) | skip)
        have H' := Aside0.mk H
        clear H
        go_wp2
        go_meet
        case rel => exact ⟨_, (true), (by first | rfl | (simp; done) | (simp [*]; done)), H', ⟨by have := HJ9.out; first | omega | exact Nat.le_refl _⟩, ⟨by (with_reducible repeat (first | apply Kd.Q_alloc | apply Kd.Q_drewN | apply Kd.Q_drew)); exact HO_10.out⟩, ⟨by (with_reducible repeat (first | apply Kd.Q_alloc | apply Kd.Q_drewN | apply Kd.Q_drew)); exact HO_12.out⟩, ⟨by (with_reducible repeat (first | apply Kd.Q_alloc | apply Kd.Q_drewN | apply Kd.Q_drew)); exact Kd.Q_mono HO372.out (fun _ hk => ⟨hk.1.2, hk.2⟩)⟩, ⟨by repeat (first | (with_reducible first | exact HB.out | apply below_alloc | apply pw_below_drewN | apply below_drew1) | exact HB.out)⟩⟩
      case rest =>
       clear HC31
       try clear c1
       try clear c2
       try clear p2
       try clear hcv2
       try clear c3
       try clear hcv3
       try clear hcv4
       try clear c6
       try clear c6b0
       try clear c6b1
       try clear c11
       try clear c12
       try clear c14
       try clear c14b0
       try clear c14b1
       try clear c15
       try clear c16
       try clear c17
       try clear c18
       try clear c18b0
       try clear c19
       try clear c22
       try clear c23
       try clear c23b0
       try clear c23b1
       try clear hcv26
       try clear hcv27
       try clear hcv28
       try clear hcv29
       try clear c34
       try clear c34b0
       try clear c34b1
       try clear c35
       try clear c35b0
       try clear c35b1
       try clear c36
       try clear c36b0
       try clear c36b1
       try clear hcv37
       try clear hcv38
       try clear hcv39
       try clear hcv40
       try clear hcv41
       try clear hcv42
       try clear hcv43
       try clear hcv44
       try clear hcv45
       try clear hcv46
       try clear hcv47
       try clear hcv48
       try clear p2
       obtain ⟨kq, x108_30, rfl, HA, HJ30, HO_10, HO_12, HO_16, HB⟩ := hcut
       cases kq with
       | zero => exact absurd HA.out (by simp [quoinlaw26_ApplyWhole.j1])
       | succ kj30 =>
        have H := HA.out
        clear HA
        simp only [quoinlaw26_ApplyWhole.j1] at H
        by_cases c49 : x108_30 = true
        ·
         subst c49
         have H1 : (if t355 = true then (if t370 = 0 then (some ((strOfNums t369).toList == (strOfNums t360).toList)) else (none)) else (none)) = some r := by rw [if_pos rfl] at H; exact H
         clear H
         have H := H1
         clear H1
         by_cases c50 : t355 = true
         ·
          subst c50
          have H1 : (if t370 = 0 then (some ((strOfNums t369).toList == (strOfNums t360).toList)) else (none)) = some r := by rw [if_pos rfl] at H; exact H
          clear H
          have H := H1
          clear H1
          by_cases c51 : t370 = 0
          ·
           rw [if_pos c51] at H
           have c51b0 : (t370 == 0) = true := beq_iff_eq.mpr c51
           have c51b1 : (t370 != 0) = false := bne_eq_false_iff_eq.mpr c51
           clear c51
           obtain rfl := Option.some.inj H
           have hcv52 := Kd.Q_string (P := Try.prog) Try.underlying25 Try.underlying5 Try.underlying9 (HO_16.out)
           have hcv53 := fun n_ : Nat => Kd.Q_string (P := Try.prog) Try.underlying25 Try.underlying5 Try.underlying9 ((Kd.Q_drewN HO_16.out n_))
           have hcv54 := Kd.Q_string (P := Try.prog) Try.underlying25 Try.underlying5 Try.underlying9 (HO_12.out)
           have hcv55 := fun n_ : Nat => Kd.Q_string (P := Try.prog) Try.underlying25 Try.underlying5 Try.underlying9 ((Kd.Q_drewN HO_12.out n_))
           go_wp2
           go_ret
           exact ⟨by first | rfl | (simp [errW_none, errW_some] <;> rfl) | (simp [*, errW_none, errW_some] <;> rfl), by repeat (first | (with_reducible first | exact HB.out | apply below_alloc | apply pw_below_drewN | apply below_drew1) | exact HB.out)⟩
          ·
           rw [if_neg c51] at H
           exact absurd H (by simp)
         ·
          replace c50 := Bool.eq_false_iff.mpr c50
          subst c50
          have H1 : (none) = some r := by rw [if_neg (show ¬ (false = true) by decide)] at H; exact H
          clear H
          have H := H1
          clear H1
          exact absurd H (by simp)
        ·
         replace c49 := Bool.eq_false_iff.mpr c49
         subst c49
         have H1 : (if a1 = 1 then (if t355 = true then (if (strOfNums t356).toList = (strOfNums t360).toList then (some (((a2) % 4294967296) == ((a3) % 4294967296))) else (some (!(((a2) % 4294967296) == ((a3) % 4294967296))))) else (none)) else ((apply_High.f a2).bind fun bt373 => ((apply_High.f a3).bind fun bt375 => ((apply_Low.f a2).bind fun bt377 => ((apply_Low.f a3).bind fun bt379 => (if a1 = 26 then (quoinlaw26_ApplyWhole.j2 kj30 a2 a3 t355 t356 t360 bt373.1 bt373.2 bt375.1 bt375.2 bt377.1 bt379.1 a1 (a1 == 26)) else (quoinlaw26_ApplyWhole.j2 kj30 a2 a3 t355 t356 t360 bt373.1 bt373.2 bt375.1 bt375.2 bt377.1 bt379.1 a1 (a1 == 23)))))))) = some r := by rw [if_neg (show ¬ (false = true) by decide)] at H; exact H
         clear H
         have H := H1
         clear H1
         by_cases c56 : a1 = 1
         ·
          rw [if_pos c56] at H
          have c56b0 : (a1 == 1) = true := beq_iff_eq.mpr c56
          have c56b1 : (a1 != 1) = false := bne_eq_false_iff_eq.mpr c56
          clear c56
          by_cases c57 : t355 = true
          ·
           subst c57
           have H1 : (if (strOfNums t356).toList = (strOfNums t360).toList then (some (((a2) % 4294967296) == ((a3) % 4294967296))) else (some (!(((a2) % 4294967296) == ((a3) % 4294967296))))) = some r := by rw [if_pos rfl] at H; exact H
           clear H
           have H := H1
           clear H1
           by_cases c58 : (strOfNums t356).toList = (strOfNums t360).toList
           ·
            rw [if_pos c58] at H
            have c58b0 : ((strOfNums t356).toList == (strOfNums t360).toList) = true := beq_iff_eq.mpr c58
            have c58b1 : ((strOfNums t356).toList != (strOfNums t360).toList) = false := bne_eq_false_iff_eq.mpr c58
            clear c58
            obtain rfl := Option.some.inj H
            have hcv59 := Kd.Q_string (P := Try.prog) Try.underlying25 Try.underlying5 Try.underlying9 (HO_10.out)
            have hcv60 := fun n_ : Nat => Kd.Q_string (P := Try.prog) Try.underlying25 Try.underlying5 Try.underlying9 ((Kd.Q_drewN HO_10.out n_))
            have hcv61 := Kd.Q_string (P := Try.prog) Try.underlying25 Try.underlying5 Try.underlying9 (HO_12.out)
            have hcv62 := fun n_ : Nat => Kd.Q_string (P := Try.prog) Try.underlying25 Try.underlying5 Try.underlying9 ((Kd.Q_drewN HO_12.out n_))
            go_wp2
            go_ret
            exact ⟨by first | rfl | (simp [errW_none, errW_some] <;> rfl) | (simp [*, errW_none, errW_some] <;> rfl), by repeat (first | (with_reducible first | exact HB.out | apply below_alloc | apply pw_below_drewN | apply below_drew1) | exact HB.out)⟩
           ·
            rw [if_neg c58] at H
            have c58b0 : ((strOfNums t356).toList == (strOfNums t360).toList) = false := beq_eq_false_iff_ne.mpr c58
            have c58b1 : ((strOfNums t356).toList != (strOfNums t360).toList) = true := bne_iff_ne.mpr c58
            obtain rfl := Option.some.inj H
            have hcv63 := Kd.Q_string (P := Try.prog) Try.underlying25 Try.underlying5 Try.underlying9 (HO_10.out)
            have hcv64 := fun n_ : Nat => Kd.Q_string (P := Try.prog) Try.underlying25 Try.underlying5 Try.underlying9 ((Kd.Q_drewN HO_10.out n_))
            have hcv65 := Kd.Q_string (P := Try.prog) Try.underlying25 Try.underlying5 Try.underlying9 (HO_12.out)
            have hcv66 := fun n_ : Nat => Kd.Q_string (P := Try.prog) Try.underlying25 Try.underlying5 Try.underlying9 ((Kd.Q_drewN HO_12.out n_))
            go_wp2
            go_ret
            exact ⟨by first | rfl | (simp [errW_none, errW_some] <;> rfl) | (simp [*, errW_none, errW_some] <;> rfl), by repeat (first | (with_reducible first | exact HB.out | apply below_alloc | apply pw_below_drewN | apply below_drew1) | exact HB.out)⟩
          ·
           replace c57 := Bool.eq_false_iff.mpr c57
           subst c57
           have H1 : (none) = some r := by rw [if_neg (show ¬ (false = true) by decide)] at H; exact H
           clear H
           have H := H1
           clear H1
           exact absurd H (by simp)
         ·
          rw [if_neg c56] at H
          have c56b0 : (a1 == 1) = false := beq_eq_false_iff_ne.mpr c56
          have c56b1 : (a1 != 1) = true := bne_iff_ne.mpr c56
          replace H := Option.bind_eq_some_iff.mp H
          obtain ⟨⟨t373, t374⟩, A670, H⟩ := H
          replace H : ((apply_High.f a3).bind fun bt375 => ((apply_Low.f a2).bind fun bt377 => ((apply_Low.f a3).bind fun bt379 => (if a1 = 26 then (quoinlaw26_ApplyWhole.j2 kj30 a2 a3 t355 t356 t360 t373 t374 bt375.1 bt375.2 bt377.1 bt379.1 a1 (a1 == 26)) else (quoinlaw26_ApplyWhole.j2 kj30 a2 a3 t355 t356 t360 t373 t374 bt375.1 bt375.2 bt377.1 bt379.1 a1 (a1 == 23)))))) = some r := H
          have A67 := Aside0.mk A670
          clear A670
          replace H := Option.bind_eq_some_iff.mp H
          obtain ⟨⟨t375, t376⟩, A680, H⟩ := H
          replace H : ((apply_Low.f a2).bind fun bt377 => ((apply_Low.f a3).bind fun bt379 => (if a1 = 26 then (quoinlaw26_ApplyWhole.j2 kj30 a2 a3 t355 t356 t360 t373 t374 t375 t376 bt377.1 bt379.1 a1 (a1 == 26)) else (quoinlaw26_ApplyWhole.j2 kj30 a2 a3 t355 t356 t360 t373 t374 t375 t376 bt377.1 bt379.1 a1 (a1 == 23))))) = some r := H
          have A68 := Aside0.mk A680
          clear A680
          replace H := Option.bind_eq_some_iff.mp H
          obtain ⟨⟨t377, t378⟩, A690, H⟩ := H
          replace H : ((apply_Low.f a3).bind fun bt379 => (if a1 = 26 then (quoinlaw26_ApplyWhole.j2 kj30 a2 a3 t355 t356 t360 t373 t374 t375 t376 t377 bt379.1 a1 (a1 == 26)) else (quoinlaw26_ApplyWhole.j2 kj30 a2 a3 t355 t356 t360 t373 t374 t375 t376 t377 bt379.1 a1 (a1 == 23)))) = some r := H
          have A69 := Aside0.mk A690
          clear A690
          replace H := Option.bind_eq_some_iff.mp H
          obtain ⟨⟨t379, t380⟩, A700, H⟩ := H
          replace H : (if a1 = 26 then (quoinlaw26_ApplyWhole.j2 kj30 a2 a3 t355 t356 t360 t373 t374 t375 t376 t377 t379 a1 (a1 == 26)) else (quoinlaw26_ApplyWhole.j2 kj30 a2 a3 t355 t356 t360 t373 t374 t375 t376 t377 t379 a1 (a1 == 23))) = some r := H
          have A70 := Aside0.mk A700
          clear A700
          have HC71 := Aside0.mk H
          clear H
          go_upto_if 158 with (first | ((with_reducible refine gate_callee (f := 9) rfl ?_); refine goesL_ (some 139) rfl rfl Try.func9 (by kernel_rfl) rfl #[.int .i64 a2] rfl (by (try simp only [List.map_toArray, List.map_cons, List.map_nil]); first | done | rfl | (simp only [List.length_drop, List.length_take]; rfl)) ?_; (with_reducible refine (apply_High.calls a2 t373 t374 _ A67.out).mono ?_); rintro e w' ⟨rfl, ⟨nd, rfl⟩⟩; refine ⟨_, rfl, ?_⟩) | ((with_reducible refine gate_callee (f := 9) rfl ?_); refine goesL_ (some 144) rfl rfl Try.func9 (by kernel_rfl) rfl #[.int .i64 a3] rfl (by (try simp only [List.map_toArray, List.map_cons, List.map_nil]); first | done | rfl | (simp only [List.length_drop, List.length_take]; rfl)) ?_; (with_reducible refine (apply_High.calls a3 t375 t376 _ A68.out).mono ?_); rintro e w' ⟨rfl, ⟨nd, rfl⟩⟩; refine ⟨_, rfl, ?_⟩) | ((with_reducible refine gate_callee (f := 10) rfl ?_); refine goesL_ (some 149) rfl rfl Try.func10 (by kernel_rfl) rfl #[.int .i64 a2] rfl (by (try simp only [List.map_toArray, List.map_cons, List.map_nil]); first | done | rfl | (simp only [List.length_drop, List.length_take]; rfl)) ?_; (with_reducible refine (apply_Low.calls a2 t377 t378 _ A69.out).mono ?_); rintro e w' ⟨rfl, ⟨nd, rfl⟩⟩; refine ⟨_, rfl, ?_⟩) | ((with_reducible refine gate_callee (f := 10) rfl ?_); refine goesL_ (some 154) rfl rfl Try.func10 (by kernel_rfl) rfl #[.int .i64 a3] rfl (by (try simp only [List.map_toArray, List.map_cons, List.map_nil]); first | done | rfl | (simp only [List.length_drop, List.length_take]; rfl)) ?_; (with_reducible refine (apply_Low.calls a3 t379 t380 _ A70.out).mono ?_); rintro e w' ⟨rfl, ⟨nd, rfl⟩⟩; refine ⟨_, rfl, ?_⟩))
          (try simp only [Act.put, List.setIfInBounds_toArray, List.set_cons_zero, List.set_cons_succ])
          go_cut [158] (fun v158 wc => ∃ (kq : Nat) (x158_70 : Bool), v158 = .bool x158_70 ∧ Aside0 (quoinlaw26_ApplyWhole.j2 kq a2 a3 t355 t356 t360 t373 t374 t375 t376 t377 t379 a1 x158_70 = some r) ∧ Aside0 (kq ≤ kj30) ∧ Aside0 (Kd.Q (Kd.int .u8) 5 wc w.heap.size (fun k_ => some k_ ≠ (v362 : Value).ownBlock) (.slice Ao32 t356.length co32) t356) ∧ Aside0 (Kd.Q (Kd.int .u8) 5 wc w.heap.size (fun k_ => some k_ ≠ ((.slice Ao32 t356.length co32) : Value).ownBlock) v362 t360) ∧ Aside0 (Below w.heap.size w wc))
          case first =>
           have H := HC71.out
           clear HC71
           by_cases c72 : a1 = 26
           ·
            rw [if_pos c72] at H
            have c72b0 : (a1 == 26) = true := beq_iff_eq.mpr c72
            have c72b1 : (a1 != 26) = false := bne_eq_false_iff_eq.mpr c72
            clear c72
            (first | rw [c72b0] | (simp only [i64_w, i32_w]; rw [c72b0]) | skip)
            have H' := Aside0.mk H
            clear H
            go_wp2
            go_meet
            case rel => exact ⟨_, ((a1 == 26)), (by first | rfl | (simp; done) | (simp [*]; done)), H', ⟨by have := HJ9.out; have := HJ30.out; first | omega | exact Nat.le_refl _⟩, ⟨by (with_reducible repeat (first | apply Kd.Q_alloc | apply Kd.Q_drewN | apply Kd.Q_drew)); exact Kd.Q_mono HO_10.out (fun _ hk => hk.1)⟩, ⟨by (with_reducible repeat (first | apply Kd.Q_alloc | apply Kd.Q_drewN | apply Kd.Q_drew)); exact Kd.Q_mono HO_12.out (fun _ hk => hk.1)⟩, ⟨by repeat (first | (with_reducible first | exact HB.out | apply below_alloc | apply pw_below_drewN | apply below_drew1) | exact HB.out)⟩⟩
           ·
            rw [if_neg c72] at H
            have c72b0 : (a1 == 26) = false := beq_eq_false_iff_ne.mpr c72
            have c72b1 : (a1 != 26) = true := bne_iff_ne.mpr c72
            (first | rw [c72b0] | (simp only [i64_w, i32_w]; rw [c72b0]) | skip)
            have H' := Aside0.mk H
            clear H
            go_wp2
            go_meet
            case rel => exact ⟨_, ((a1 == 23)), (by first | rfl | (simp; done) | (simp [*]; done)), H', ⟨by have := HJ9.out; have := HJ30.out; first | omega | exact Nat.le_refl _⟩, ⟨by (with_reducible repeat (first | apply Kd.Q_alloc | apply Kd.Q_drewN | apply Kd.Q_drew)); exact Kd.Q_mono HO_10.out (fun _ hk => hk.1)⟩, ⟨by (with_reducible repeat (first | apply Kd.Q_alloc | apply Kd.Q_drewN | apply Kd.Q_drew)); exact Kd.Q_mono HO_12.out (fun _ hk => hk.1)⟩, ⟨by repeat (first | (with_reducible first | exact HB.out | apply below_alloc | apply pw_below_drewN | apply below_drew1) | exact HB.out)⟩⟩
          case rest =>
           clear HC71
           try clear c1
           try clear c2
           try clear p2
           try clear hcv2
           try clear c3
           try clear hcv3
           try clear c4
           try clear hcv4
           try clear c5
           try clear hcv5
           try clear c6
           try clear c6b0
           try clear c6b1
           try clear hcv6
           try clear c7
           try clear c9
           try clear c10
           try clear c11
           try clear c12
           try clear c14
           try clear c14b0
           try clear c14b1
           try clear c15
           try clear c16
           try clear c17
           try clear c18
           try clear c18b0
           try clear c19
           try clear c22
           try clear c23
           try clear c23b0
           try clear c23b1
           try clear hcv26
           try clear hcv27
           try clear hcv28
           try clear hcv29
           try clear c34
           try clear c34b0
           try clear c34b1
           try clear c35
           try clear c35b0
           try clear c35b1
           try clear c36
           try clear c36b0
           try clear c36b1
           try clear hcv37
           try clear hcv38
           try clear hcv39
           try clear hcv40
           try clear hcv41
           try clear hcv42
           try clear hcv43
           try clear hcv44
           try clear hcv45
           try clear hcv46
           try clear hcv47
           try clear hcv48
           try clear c49
           try clear c50
           try clear c51
           try clear c51b0
           try clear c51b1
           try clear hcv52
           try clear hcv53
           try clear hcv54
           try clear hcv55
           try clear c56
           try clear c56b0
           try clear c56b1
           try clear c57
           try clear c58
           try clear c58b0
           try clear c58b1
           try clear hcv59
           try clear hcv60
           try clear hcv61
           try clear hcv62
           try clear hcv63
           try clear hcv64
           try clear hcv65
           try clear hcv66
           try clear c72
           try clear c72b0
           try clear c72b1
           try clear p2
           obtain ⟨kq, x158_70, rfl, HA, HJ70, HO_10, HO_12, HB⟩ := hcut
           cases kq with
           | zero => exact absurd HA.out (by simp [quoinlaw26_ApplyWhole.j2])
           | succ kj70 =>
            have H := HA.out
            clear HA
            simp only [quoinlaw26_ApplyWhole.j2] at H
            by_cases c73 : x158_70 = true
            ·
             subst c73
             have H1 : (if t355 = true then (if t374 = 0 then (if t376 = 0 then (if (strOfNums t356).toList = (strOfNums t360).toList then (some (t373 == t375)) else (some (!(t373 == t375)))) else (none)) else (none)) else (none)) = some r := by rw [if_pos rfl] at H; exact H
             clear H
             have H := H1
             clear H1
             by_cases c74 : t355 = true
             ·
              subst c74
              have H1 : (if t374 = 0 then (if t376 = 0 then (if (strOfNums t356).toList = (strOfNums t360).toList then (some (t373 == t375)) else (some (!(t373 == t375)))) else (none)) else (none)) = some r := by rw [if_pos rfl] at H; exact H
              clear H
              have H := H1
              clear H1
              by_cases c75 : t374 = 0
              ·
               rw [if_pos c75] at H
               have c75b0 : (t374 == 0) = true := beq_iff_eq.mpr c75
               have c75b1 : (t374 != 0) = false := bne_eq_false_iff_eq.mpr c75
               clear c75
               by_cases c76 : t376 = 0
               ·
                rw [if_pos c76] at H
                have c76b0 : (t376 == 0) = true := beq_iff_eq.mpr c76
                have c76b1 : (t376 != 0) = false := bne_eq_false_iff_eq.mpr c76
                clear c76
                by_cases c77 : (strOfNums t356).toList = (strOfNums t360).toList
                ·
                 rw [if_pos c77] at H
                 have c77b0 : ((strOfNums t356).toList == (strOfNums t360).toList) = true := beq_iff_eq.mpr c77
                 have c77b1 : ((strOfNums t356).toList != (strOfNums t360).toList) = false := bne_eq_false_iff_eq.mpr c77
                 clear c77
                 obtain rfl := Option.some.inj H
                 have hcv78 := Kd.Q_string (P := Try.prog) Try.underlying25 Try.underlying5 Try.underlying9 (HO_10.out)
                 have hcv79 := fun n_ : Nat => Kd.Q_string (P := Try.prog) Try.underlying25 Try.underlying5 Try.underlying9 ((Kd.Q_drewN HO_10.out n_))
                 have hcv80 := Kd.Q_string (P := Try.prog) Try.underlying25 Try.underlying5 Try.underlying9 (HO_12.out)
                 have hcv81 := fun n_ : Nat => Kd.Q_string (P := Try.prog) Try.underlying25 Try.underlying5 Try.underlying9 ((Kd.Q_drewN HO_12.out n_))
                 go_wp2
                 go_ret
                 exact ⟨by first | rfl | (simp [errW_none, errW_some] <;> rfl) | (simp [*, errW_none, errW_some] <;> rfl), by repeat (first | (with_reducible first | exact HB.out | apply below_alloc | apply pw_below_drewN | apply below_drew1) | exact HB.out)⟩
                ·
                 rw [if_neg c77] at H
                 have c77b0 : ((strOfNums t356).toList == (strOfNums t360).toList) = false := beq_eq_false_iff_ne.mpr c77
                 have c77b1 : ((strOfNums t356).toList != (strOfNums t360).toList) = true := bne_iff_ne.mpr c77
                 obtain rfl := Option.some.inj H
                 have hcv82 := Kd.Q_string (P := Try.prog) Try.underlying25 Try.underlying5 Try.underlying9 (HO_10.out)
                 have hcv83 := fun n_ : Nat => Kd.Q_string (P := Try.prog) Try.underlying25 Try.underlying5 Try.underlying9 ((Kd.Q_drewN HO_10.out n_))
                 have hcv84 := Kd.Q_string (P := Try.prog) Try.underlying25 Try.underlying5 Try.underlying9 (HO_12.out)
                 have hcv85 := fun n_ : Nat => Kd.Q_string (P := Try.prog) Try.underlying25 Try.underlying5 Try.underlying9 ((Kd.Q_drewN HO_12.out n_))
                 go_wp2
                 go_ret
                 exact ⟨by first | rfl | (simp [errW_none, errW_some] <;> rfl) | (simp [*, errW_none, errW_some] <;> rfl), by repeat (first | (with_reducible first | exact HB.out | apply below_alloc | apply pw_below_drewN | apply below_drew1) | exact HB.out)⟩
               ·
                rw [if_neg c76] at H
                exact absurd H (by simp)
              ·
               rw [if_neg c75] at H
               exact absurd H (by simp)
             ·
              replace c74 := Bool.eq_false_iff.mpr c74
              subst c74
              have H1 : (none) = some r := by rw [if_neg (show ¬ (false = true) by decide)] at H; exact H
              clear H
              have H := H1
              clear H1
              exact absurd H (by simp)
            ·
             replace c73 := Bool.eq_false_iff.mpr c73
             subst c73
             have H1 : (if a1 = 27 then (if t355 = true then (if (strOfNums t356).toList = (strOfNums t360).toList then (some (t377 == t379)) else (some (!(t377 == t379)))) else (none)) else (if a1 = 28 then (if t355 = true then (if (strOfNums t356).toList = (strOfNums t360).toList then (some (t377 == t379)) else (some (!(t377 == t379)))) else (none)) else (if a1 = 24 then (if t355 = true then (if (strOfNums t356).toList = (strOfNums t360).toList then (some (t377 == t379)) else (some (!(t377 == t379)))) else (none)) else (if a1 = 25 then (if t355 = true then (if (strOfNums t356).toList = (strOfNums t360).toList then (some (t377 == t379)) else (some (!(t377 == t379)))) else (none)) else (if t355 = true then (if (strOfNums t356).toList = (strOfNums t360).toList then (some (a2 == a3)) else (some (!(a2 == a3)))) else (none)))))) = some r := by rw [if_neg (show ¬ (false = true) by decide)] at H; exact H
             clear H
             have H := H1
             clear H1
             by_cases c86 : a1 = 27
             ·
              rw [if_pos c86] at H
              have c86b0 : (a1 == 27) = true := beq_iff_eq.mpr c86
              have c86b1 : (a1 != 27) = false := bne_eq_false_iff_eq.mpr c86
              clear c86
              by_cases c87 : t355 = true
              ·
               subst c87
               have H1 : (if (strOfNums t356).toList = (strOfNums t360).toList then (some (t377 == t379)) else (some (!(t377 == t379)))) = some r := by rw [if_pos rfl] at H; exact H
               clear H
               have H := H1
               clear H1
               by_cases c88 : (strOfNums t356).toList = (strOfNums t360).toList
               ·
                rw [if_pos c88] at H
                have c88b0 : ((strOfNums t356).toList == (strOfNums t360).toList) = true := beq_iff_eq.mpr c88
                have c88b1 : ((strOfNums t356).toList != (strOfNums t360).toList) = false := bne_eq_false_iff_eq.mpr c88
                clear c88
                obtain rfl := Option.some.inj H
                have hcv89 := Kd.Q_string (P := Try.prog) Try.underlying25 Try.underlying5 Try.underlying9 (HO_10.out)
                have hcv90 := fun n_ : Nat => Kd.Q_string (P := Try.prog) Try.underlying25 Try.underlying5 Try.underlying9 ((Kd.Q_drewN HO_10.out n_))
                have hcv91 := Kd.Q_string (P := Try.prog) Try.underlying25 Try.underlying5 Try.underlying9 (HO_12.out)
                have hcv92 := fun n_ : Nat => Kd.Q_string (P := Try.prog) Try.underlying25 Try.underlying5 Try.underlying9 ((Kd.Q_drewN HO_12.out n_))
                go_wp2
                go_ret
                exact ⟨by first | rfl | (simp [errW_none, errW_some] <;> rfl) | (simp [*, errW_none, errW_some] <;> rfl), by repeat (first | (with_reducible first | exact HB.out | apply below_alloc | apply pw_below_drewN | apply below_drew1) | exact HB.out)⟩
               ·
                rw [if_neg c88] at H
                have c88b0 : ((strOfNums t356).toList == (strOfNums t360).toList) = false := beq_eq_false_iff_ne.mpr c88
                have c88b1 : ((strOfNums t356).toList != (strOfNums t360).toList) = true := bne_iff_ne.mpr c88
                obtain rfl := Option.some.inj H
                have hcv93 := Kd.Q_string (P := Try.prog) Try.underlying25 Try.underlying5 Try.underlying9 (HO_10.out)
                have hcv94 := fun n_ : Nat => Kd.Q_string (P := Try.prog) Try.underlying25 Try.underlying5 Try.underlying9 ((Kd.Q_drewN HO_10.out n_))
                have hcv95 := Kd.Q_string (P := Try.prog) Try.underlying25 Try.underlying5 Try.underlying9 (HO_12.out)
                have hcv96 := fun n_ : Nat => Kd.Q_string (P := Try.prog) Try.underlying25 Try.underlying5 Try.underlying9 ((Kd.Q_drewN HO_12.out n_))
                go_wp2
                go_ret
                exact ⟨by first | rfl | (simp [errW_none, errW_some] <;> rfl) | (simp [*, errW_none, errW_some] <;> rfl), by repeat (first | (with_reducible first | exact HB.out | apply below_alloc | apply pw_below_drewN | apply below_drew1) | exact HB.out)⟩
              ·
               replace c87 := Bool.eq_false_iff.mpr c87
               subst c87
               have H1 : (none) = some r := by rw [if_neg (show ¬ (false = true) by decide)] at H; exact H
               clear H
               have H := H1
               clear H1
               exact absurd H (by simp)
             ·
              rw [if_neg c86] at H
              have c86b0 : (a1 == 27) = false := beq_eq_false_iff_ne.mpr c86
              have c86b1 : (a1 != 27) = true := bne_iff_ne.mpr c86
              by_cases c97 : a1 = 28
              ·
               rw [if_pos c97] at H
               have c97b0 : (a1 == 28) = true := beq_iff_eq.mpr c97
               have c97b1 : (a1 != 28) = false := bne_eq_false_iff_eq.mpr c97
               clear c97
               by_cases c98 : t355 = true
               ·
                subst c98
                have H1 : (if (strOfNums t356).toList = (strOfNums t360).toList then (some (t377 == t379)) else (some (!(t377 == t379)))) = some r := by rw [if_pos rfl] at H; exact H
                clear H
                have H := H1
                clear H1
                by_cases c99 : (strOfNums t356).toList = (strOfNums t360).toList
                ·
                 rw [if_pos c99] at H
                 have c99b0 : ((strOfNums t356).toList == (strOfNums t360).toList) = true := beq_iff_eq.mpr c99
                 have c99b1 : ((strOfNums t356).toList != (strOfNums t360).toList) = false := bne_eq_false_iff_eq.mpr c99
                 clear c99
                 obtain rfl := Option.some.inj H
                 have hcv100 := Kd.Q_string (P := Try.prog) Try.underlying25 Try.underlying5 Try.underlying9 (HO_10.out)
                 have hcv101 := fun n_ : Nat => Kd.Q_string (P := Try.prog) Try.underlying25 Try.underlying5 Try.underlying9 ((Kd.Q_drewN HO_10.out n_))
                 have hcv102 := Kd.Q_string (P := Try.prog) Try.underlying25 Try.underlying5 Try.underlying9 (HO_12.out)
                 have hcv103 := fun n_ : Nat => Kd.Q_string (P := Try.prog) Try.underlying25 Try.underlying5 Try.underlying9 ((Kd.Q_drewN HO_12.out n_))
                 go_wp2
                 go_ret
                 exact ⟨by first | rfl | (simp [errW_none, errW_some] <;> rfl) | (simp [*, errW_none, errW_some] <;> rfl), by repeat (first | (with_reducible first | exact HB.out | apply below_alloc | apply pw_below_drewN | apply below_drew1) | exact HB.out)⟩
                ·
                 rw [if_neg c99] at H
                 have c99b0 : ((strOfNums t356).toList == (strOfNums t360).toList) = false := beq_eq_false_iff_ne.mpr c99
                 have c99b1 : ((strOfNums t356).toList != (strOfNums t360).toList) = true := bne_iff_ne.mpr c99
                 obtain rfl := Option.some.inj H
                 have hcv104 := Kd.Q_string (P := Try.prog) Try.underlying25 Try.underlying5 Try.underlying9 (HO_10.out)
                 have hcv105 := fun n_ : Nat => Kd.Q_string (P := Try.prog) Try.underlying25 Try.underlying5 Try.underlying9 ((Kd.Q_drewN HO_10.out n_))
                 have hcv106 := Kd.Q_string (P := Try.prog) Try.underlying25 Try.underlying5 Try.underlying9 (HO_12.out)
                 have hcv107 := fun n_ : Nat => Kd.Q_string (P := Try.prog) Try.underlying25 Try.underlying5 Try.underlying9 ((Kd.Q_drewN HO_12.out n_))
                 go_wp2
                 go_ret
                 exact ⟨by first | rfl | (simp [errW_none, errW_some] <;> rfl) | (simp [*, errW_none, errW_some] <;> rfl), by repeat (first | (with_reducible first | exact HB.out | apply below_alloc | apply pw_below_drewN | apply below_drew1) | exact HB.out)⟩
               ·
                replace c98 := Bool.eq_false_iff.mpr c98
                subst c98
                have H1 : (none) = some r := by rw [if_neg (show ¬ (false = true) by decide)] at H; exact H
                clear H
                have H := H1
                clear H1
                exact absurd H (by simp)
              ·
               rw [if_neg c97] at H
               have c97b0 : (a1 == 28) = false := beq_eq_false_iff_ne.mpr c97
               have c97b1 : (a1 != 28) = true := bne_iff_ne.mpr c97
               by_cases c108 : a1 = 24
               ·
                rw [if_pos c108] at H
                have c108b0 : (a1 == 24) = true := beq_iff_eq.mpr c108
                have c108b1 : (a1 != 24) = false := bne_eq_false_iff_eq.mpr c108
                clear c108
                by_cases c109 : t355 = true
                ·
                 subst c109
                 have H1 : (if (strOfNums t356).toList = (strOfNums t360).toList then (some (t377 == t379)) else (some (!(t377 == t379)))) = some r := by rw [if_pos rfl] at H; exact H
                 clear H
                 have H := H1
                 clear H1
                 by_cases c110 : (strOfNums t356).toList = (strOfNums t360).toList
                 ·
                  rw [if_pos c110] at H
                  have c110b0 : ((strOfNums t356).toList == (strOfNums t360).toList) = true := beq_iff_eq.mpr c110
                  have c110b1 : ((strOfNums t356).toList != (strOfNums t360).toList) = false := bne_eq_false_iff_eq.mpr c110
                  clear c110
                  obtain rfl := Option.some.inj H
                  have hcv111 := Kd.Q_string (P := Try.prog) Try.underlying25 Try.underlying5 Try.underlying9 (HO_10.out)
                  have hcv112 := fun n_ : Nat => Kd.Q_string (P := Try.prog) Try.underlying25 Try.underlying5 Try.underlying9 ((Kd.Q_drewN HO_10.out n_))
                  have hcv113 := Kd.Q_string (P := Try.prog) Try.underlying25 Try.underlying5 Try.underlying9 (HO_12.out)
                  have hcv114 := fun n_ : Nat => Kd.Q_string (P := Try.prog) Try.underlying25 Try.underlying5 Try.underlying9 ((Kd.Q_drewN HO_12.out n_))
                  go_wp2
                  go_ret
                  exact ⟨by first | rfl | (simp [errW_none, errW_some] <;> rfl) | (simp [*, errW_none, errW_some] <;> rfl), by repeat (first | (with_reducible first | exact HB.out | apply below_alloc | apply pw_below_drewN | apply below_drew1) | exact HB.out)⟩
                 ·
                  rw [if_neg c110] at H
                  have c110b0 : ((strOfNums t356).toList == (strOfNums t360).toList) = false := beq_eq_false_iff_ne.mpr c110
                  have c110b1 : ((strOfNums t356).toList != (strOfNums t360).toList) = true := bne_iff_ne.mpr c110
                  obtain rfl := Option.some.inj H
                  have hcv115 := Kd.Q_string (P := Try.prog) Try.underlying25 Try.underlying5 Try.underlying9 (HO_10.out)
                  have hcv116 := fun n_ : Nat => Kd.Q_string (P := Try.prog) Try.underlying25 Try.underlying5 Try.underlying9 ((Kd.Q_drewN HO_10.out n_))
                  have hcv117 := Kd.Q_string (P := Try.prog) Try.underlying25 Try.underlying5 Try.underlying9 (HO_12.out)
                  have hcv118 := fun n_ : Nat => Kd.Q_string (P := Try.prog) Try.underlying25 Try.underlying5 Try.underlying9 ((Kd.Q_drewN HO_12.out n_))
                  go_wp2
                  go_ret
                  exact ⟨by first | rfl | (simp [errW_none, errW_some] <;> rfl) | (simp [*, errW_none, errW_some] <;> rfl), by repeat (first | (with_reducible first | exact HB.out | apply below_alloc | apply pw_below_drewN | apply below_drew1) | exact HB.out)⟩
                ·
                 replace c109 := Bool.eq_false_iff.mpr c109
                 subst c109
                 have H1 : (none) = some r := by rw [if_neg (show ¬ (false = true) by decide)] at H; exact H
                 clear H
                 have H := H1
                 clear H1
                 exact absurd H (by simp)
               ·
                rw [if_neg c108] at H
                have c108b0 : (a1 == 24) = false := beq_eq_false_iff_ne.mpr c108
                have c108b1 : (a1 != 24) = true := bne_iff_ne.mpr c108
                by_cases c119 : a1 = 25
                ·
                 rw [if_pos c119] at H
                 have c119b0 : (a1 == 25) = true := beq_iff_eq.mpr c119
                 have c119b1 : (a1 != 25) = false := bne_eq_false_iff_eq.mpr c119
                 clear c119
                 by_cases c120 : t355 = true
                 ·
                  subst c120
                  have H1 : (if (strOfNums t356).toList = (strOfNums t360).toList then (some (t377 == t379)) else (some (!(t377 == t379)))) = some r := by rw [if_pos rfl] at H; exact H
                  clear H
                  have H := H1
                  clear H1
                  by_cases c121 : (strOfNums t356).toList = (strOfNums t360).toList
                  ·
                   rw [if_pos c121] at H
                   have c121b0 : ((strOfNums t356).toList == (strOfNums t360).toList) = true := beq_iff_eq.mpr c121
                   have c121b1 : ((strOfNums t356).toList != (strOfNums t360).toList) = false := bne_eq_false_iff_eq.mpr c121
                   clear c121
                   obtain rfl := Option.some.inj H
                   have hcv122 := Kd.Q_string (P := Try.prog) Try.underlying25 Try.underlying5 Try.underlying9 (HO_10.out)
                   have hcv123 := fun n_ : Nat => Kd.Q_string (P := Try.prog) Try.underlying25 Try.underlying5 Try.underlying9 ((Kd.Q_drewN HO_10.out n_))
                   have hcv124 := Kd.Q_string (P := Try.prog) Try.underlying25 Try.underlying5 Try.underlying9 (HO_12.out)
                   have hcv125 := fun n_ : Nat => Kd.Q_string (P := Try.prog) Try.underlying25 Try.underlying5 Try.underlying9 ((Kd.Q_drewN HO_12.out n_))
                   go_wp2
                   go_ret
                   exact ⟨by first | rfl | (simp [errW_none, errW_some] <;> rfl) | (simp [*, errW_none, errW_some] <;> rfl), by repeat (first | (with_reducible first | exact HB.out | apply below_alloc | apply pw_below_drewN | apply below_drew1) | exact HB.out)⟩
                  ·
                   rw [if_neg c121] at H
                   have c121b0 : ((strOfNums t356).toList == (strOfNums t360).toList) = false := beq_eq_false_iff_ne.mpr c121
                   have c121b1 : ((strOfNums t356).toList != (strOfNums t360).toList) = true := bne_iff_ne.mpr c121
                   obtain rfl := Option.some.inj H
                   have hcv126 := Kd.Q_string (P := Try.prog) Try.underlying25 Try.underlying5 Try.underlying9 (HO_10.out)
                   have hcv127 := fun n_ : Nat => Kd.Q_string (P := Try.prog) Try.underlying25 Try.underlying5 Try.underlying9 ((Kd.Q_drewN HO_10.out n_))
                   have hcv128 := Kd.Q_string (P := Try.prog) Try.underlying25 Try.underlying5 Try.underlying9 (HO_12.out)
                   have hcv129 := fun n_ : Nat => Kd.Q_string (P := Try.prog) Try.underlying25 Try.underlying5 Try.underlying9 ((Kd.Q_drewN HO_12.out n_))
                   go_wp2
                   go_ret
                   exact ⟨by first | rfl | (simp [errW_none, errW_some] <;> rfl) | (simp [*, errW_none, errW_some] <;> rfl), by repeat (first | (with_reducible first | exact HB.out | apply below_alloc | apply pw_below_drewN | apply below_drew1) | exact HB.out)⟩
                 ·
                  replace c120 := Bool.eq_false_iff.mpr c120
                  subst c120
                  have H1 : (none) = some r := by rw [if_neg (show ¬ (false = true) by decide)] at H; exact H
                  clear H
                  have H := H1
                  clear H1
                  exact absurd H (by simp)
                ·
                 rw [if_neg c119] at H
                 have c119b0 : (a1 == 25) = false := beq_eq_false_iff_ne.mpr c119
                 have c119b1 : (a1 != 25) = true := bne_iff_ne.mpr c119
                 by_cases c130 : t355 = true
                 ·
                  subst c130
                  have H1 : (if (strOfNums t356).toList = (strOfNums t360).toList then (some (a2 == a3)) else (some (!(a2 == a3)))) = some r := by rw [if_pos rfl] at H; exact H
                  clear H
                  have H := H1
                  clear H1
                  by_cases c131 : (strOfNums t356).toList = (strOfNums t360).toList
                  ·
                   rw [if_pos c131] at H
                   have c131b0 : ((strOfNums t356).toList == (strOfNums t360).toList) = true := beq_iff_eq.mpr c131
                   have c131b1 : ((strOfNums t356).toList != (strOfNums t360).toList) = false := bne_eq_false_iff_eq.mpr c131
                   clear c131
                   obtain rfl := Option.some.inj H
                   have hcv132 := Kd.Q_string (P := Try.prog) Try.underlying25 Try.underlying5 Try.underlying9 (HO_10.out)
                   have hcv133 := fun n_ : Nat => Kd.Q_string (P := Try.prog) Try.underlying25 Try.underlying5 Try.underlying9 ((Kd.Q_drewN HO_10.out n_))
                   have hcv134 := Kd.Q_string (P := Try.prog) Try.underlying25 Try.underlying5 Try.underlying9 (HO_12.out)
                   have hcv135 := fun n_ : Nat => Kd.Q_string (P := Try.prog) Try.underlying25 Try.underlying5 Try.underlying9 ((Kd.Q_drewN HO_12.out n_))
                   go_wp2
                   go_ret
                   exact ⟨by first | rfl | (simp [errW_none, errW_some] <;> rfl) | (simp [*, errW_none, errW_some] <;> rfl), by repeat (first | (with_reducible first | exact HB.out | apply below_alloc | apply pw_below_drewN | apply below_drew1) | exact HB.out)⟩
                  ·
                   rw [if_neg c131] at H
                   have c131b0 : ((strOfNums t356).toList == (strOfNums t360).toList) = false := beq_eq_false_iff_ne.mpr c131
                   have c131b1 : ((strOfNums t356).toList != (strOfNums t360).toList) = true := bne_iff_ne.mpr c131
                   obtain rfl := Option.some.inj H
                   have hcv136 := Kd.Q_string (P := Try.prog) Try.underlying25 Try.underlying5 Try.underlying9 (HO_10.out)
                   have hcv137 := fun n_ : Nat => Kd.Q_string (P := Try.prog) Try.underlying25 Try.underlying5 Try.underlying9 ((Kd.Q_drewN HO_10.out n_))
                   have hcv138 := Kd.Q_string (P := Try.prog) Try.underlying25 Try.underlying5 Try.underlying9 (HO_12.out)
                   have hcv139 := fun n_ : Nat => Kd.Q_string (P := Try.prog) Try.underlying25 Try.underlying5 Try.underlying9 ((Kd.Q_drewN HO_12.out n_))
                   go_wp2
                   go_ret
                   exact ⟨by first | rfl | (simp [errW_none, errW_some] <;> rfl) | (simp [*, errW_none, errW_some] <;> rfl), by repeat (first | (with_reducible first | exact HB.out | apply below_alloc | apply pw_below_drewN | apply below_drew1) | exact HB.out)⟩
                 ·
                  replace c130 := Bool.eq_false_iff.mpr c130
                  subst c130
                  have H1 : (none) = some r := by rw [if_neg (show ¬ (false = true) by decide)] at H; exact H
                  clear H
                  have H := H1
                  clear H1
                  exact absurd H (by simp)

/-- THE ONE PURE STATEMENT of quoinlaw26_ApplyWhole: yours. -/
def quoinlaw26_ApplyWhole.Pure : Prop := ∀ (l0 : List Int) (a1 : Int) (a2 : Int) (a3 : Int), l0.length ≤ maxLen → l0.length * 1 ≤ 140737488351232 → (∀ x ∈ l0, (Lit.int .u8 x).wf = true) → (Lit.int .u8 a1).wf = true → (Lit.int .i64 a2).wf = true → (Lit.int .i64 a3).wf = true → ∃ k, quoinlaw26_ApplyWhole.f k l0 a1 a2 a3 = some true
theorem quoinlaw26_ApplyWhole.walk (P : quoinlaw26_ApplyWhole.Pure) (a0 : Option Addr) (len0 cap0 : Nat) (z0 : List Int) (a1 : Int) (a2 : Int) (a3 : Int) (w : World) (w0 : (a0 = none ∧ len0 = 0 ∧ cap0 = 0 ∧ z0 = []) ∨ ∃ x, a0 = some x ∧ len0 ≤ cap0 ∧ cap0 ≤ maxLen ∧ z0.length = cap0 ∧ (∀ i, i < z0.length → w.cell? (x.add i) = some (.int .u8 (z0.getD i 0))) ∧ ∀ n ∈ z0, (Lit.int .u8 n).wf = true) (y0 : len0 * 1 ≤ 140737488351232) (w1 : (Lit.int .u8 a1).wf = true) (w2 : (Lit.int .i64 a2).wf = true) (w3 : (Lit.int .i64 a3).wf = true) :
  Calls Try.prog 6 #[.slice a0 len0 cap0, .int .u8 a1, .int .i64 a2, .int .i64 a3] w fun e w' => e = .returned (.bool true) ∧ Below w.heap.size w w' := by
 obtain ⟨l0, rfl, hr0, hm0, hw0, hc0⟩ := ReadsInt.ofRowC w0
 obtain ⟨k, h⟩ := P l0 a1 a2 a3 hm0 y0 hw0 w1 w2 w3
 refine (quoinlaw26_ApplyWhole.calls k _ _ l0 a1 a2 a3 true w (Kd.C_of_reads (d := (0 : Int)) (h1 := fun _ => rfl) hr0) hc0 h).mono ?_
 rintro e w' ⟨rfl, hd⟩
 exact ⟨rfl, hd⟩

end Go.Proofs.Ytoljgjnbkejhaaa.P
