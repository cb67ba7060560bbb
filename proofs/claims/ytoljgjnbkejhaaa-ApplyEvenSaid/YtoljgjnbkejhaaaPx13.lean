-- Written by pext.py, a program of this session, over the kit's print: a function's contract
import Derived.Test.YtoljgjnbkejhaaaPx0
import Derived.Test.YtoljgjnbkejhaaaPx3
import Derived.Test.YtoljgjnbkejhaaaPx4
import Derived.Test.YtoljgjnbkejhaaaPx5
namespace Go.Proofs.Ytoljgjnbkejhaaa.P
open Go.RowKit Go.Proofs.YtoljgjnbkejhaaaW.PrintWords Go.Proofs.YtoljgjnbkejhaaaW.PrintLast Go.Proofs.YtoljgjnbkejhaaaW.PrintMore
attribute [local go_sem] max2_int min2_int max_two min_two max_three min_three max_four min_four   -- for this text's walks alone
set_option linter.unusedVariables false
set_option linter.unusedSimpArgs false

/-! ### quoinlaw26_ApplyEven: function 8 -/
mutual
def quoinlaw26_ApplyEven.j0 : Nat → List Int → List Int → Int → Int → Bool → Bool → Option (Bool)
 | 0, _, _, _, _, _, _ => none
 | k + 1, x0, x1, x2, x3, x9, x31 => if x31 = true then (some x9) else ((apply_Fix.f k x0 x2 x3).bind fun bt396 => ((apply_Fix.f k x1 x2 x3).bind fun bt400 => (if bt396.2 = bt400.2 then (if bt396.2 = 0 then (quoinlaw26_ApplyEven.j1 k x0 x2 x3 x9 bt396.1 bt396.2 false) else (if (bt396.1.length : Int) = 0 then (quoinlaw26_ApplyEven.j1 k x0 x2 x3 x9 bt396.1 bt396.2 ((bt400.1.length : Int) != 0)) else (none))) else (none))))
def quoinlaw26_ApplyEven.j1 : Nat → List Int → Int → Int → Bool → List Int → Int → Bool → Option (Bool)
 | 0, _, _, _, _, _, _, _ => none
 | k + 1, x0, x2, x3, x9, x10, x11, x63 => if x63 = true then (none) else (if x11 = 0 then ((apply_Fix.f k x10 x2 x3).bind fun bt404 => (if x9 = true then (if bt404.2 = 0 then (if (x10.length : Int) = (x0.length : Int) then ((quoinlaw26_sums.f x2).bind fun t408 => (if t408 = true then (some true) else (some ((strOfNums bt404.1).toList == (strOfNums x10).toList)))) else (none)) else (none)) else (none))) else (if x9 = true then (if x11 = 261 then (some ((Int.tmod x3 2) != 0)) else (some true)) else (none)))
end
def quoinlaw26_ApplyEven.f (k : Nat) (l0 : List Int) (l1 : List Int) (a2 : Int) (a3 : Int) : Option (Bool) := (quoinlaw26_alive.f k).bind fun t395 => (if (l0.length : Int) > 1000 then (quoinlaw26_ApplyEven.j0 k l0 l1 a2 a3 t395 true) else (if (l1.length : Int) > 1000 then (quoinlaw26_ApplyEven.j0 k l0 l1 a2 a3 t395 true) else (quoinlaw26_ApplyEven.j0 k l0 l1 a2 a3 t395 ((l0.length : Int) != (l1.length : Int)))))
theorem quoinlaw26_ApplyEven.mono_l : ∀ k, (∀ y0 y1 y2 y3 y4 y5, LeO (quoinlaw26_ApplyEven.j0 k y0 y1 y2 y3 y4 y5) (quoinlaw26_ApplyEven.j0 (k + 1) y0 y1 y2 y3 y4 y5)) ∧ (∀ y0 y1 y2 y3 y4 y5 y6, LeO (quoinlaw26_ApplyEven.j1 k y0 y1 y2 y3 y4 y5 y6) (quoinlaw26_ApplyEven.j1 (k + 1) y0 y1 y2 y3 y4 y5 y6))
 | 0 => ⟨fun _ _ _ _ _ _ r h => by simp [quoinlaw26_ApplyEven.j0] at h, fun _ _ _ _ _ _ _ r h => by simp [quoinlaw26_ApplyEven.j1] at h⟩
 | k + 1 => by
  obtain ⟨ih0, ih1⟩ := quoinlaw26_ApplyEven.mono_l k
  refine ⟨?_, ?_⟩
  ·
   intro y0 y1 y2 y3 y4 y5
   unfold quoinlaw26_ApplyEven.j0
   repeat' first
   | (with_reducible exact ih0 _ _ _ _ _ _)
   | (with_reducible exact ih1 _ _ _ _ _ _ _)
   | (with_reducible exact apply_Fix.mono _ _ _ _)
   | (with_reducible exact quoinlaw26_alive.mono _)
   | (with_reducible exact LeO.refl _)
   | (with_reducible exact LeO.none _)
   | (with_reducible refine LeO.ite ?_ ?_)
   | (with_reducible refine LeO.bind ?_ (fun _ => ?_))
   | exact ih0 _ _ _ _ _ _
   | exact ih1 _ _ _ _ _ _ _
   | exact apply_Fix.mono _ _ _ _
   | exact quoinlaw26_alive.mono _
   | exact LeO.none _
   | refine LeO.ite ?_ ?_
   | refine LeO.bind ?_ (fun _ => ?_)
  ·
   intro y0 y1 y2 y3 y4 y5 y6
   unfold quoinlaw26_ApplyEven.j1
   repeat' first
   | (with_reducible exact ih0 _ _ _ _ _ _)
   | (with_reducible exact ih1 _ _ _ _ _ _ _)
   | (with_reducible exact apply_Fix.mono _ _ _ _)
   | (with_reducible exact quoinlaw26_alive.mono _)
   | (with_reducible exact LeO.refl _)
   | (with_reducible exact LeO.none _)
   | (with_reducible refine LeO.ite ?_ ?_)
   | (with_reducible refine LeO.bind ?_ (fun _ => ?_))
   | exact ih0 _ _ _ _ _ _
   | exact ih1 _ _ _ _ _ _ _
   | exact apply_Fix.mono _ _ _ _
   | exact quoinlaw26_alive.mono _
   | exact LeO.none _
   | refine LeO.ite ?_ ?_
   | refine LeO.bind ?_ (fun _ => ?_)
theorem quoinlaw26_ApplyEven.mono : ∀ a0 a1 a2 a3 k, LeO (quoinlaw26_ApplyEven.f k a0 a1 a2 a3) (quoinlaw26_ApplyEven.f (k + 1) a0 a1 a2 a3) := by
 intro a0 a1 a2 a3 k
 obtain ⟨ih0, ih1⟩ := quoinlaw26_ApplyEven.mono_l k
 unfold quoinlaw26_ApplyEven.f
 repeat' first
   | (with_reducible exact ih0 _ _ _ _ _ _)
   | (with_reducible exact ih1 _ _ _ _ _ _ _)
   | (with_reducible exact apply_Fix.mono _ _ _ _)
   | (with_reducible exact quoinlaw26_alive.mono _)
   | (with_reducible exact LeO.refl _)
   | (with_reducible exact LeO.none _)
   | (with_reducible refine LeO.ite ?_ ?_)
   | (with_reducible refine LeO.bind ?_ (fun _ => ?_))
   | exact ih0 _ _ _ _ _ _
   | exact ih1 _ _ _ _ _ _ _
   | exact apply_Fix.mono _ _ _ _
   | exact quoinlaw26_alive.mono _
   | exact LeO.none _
   | refine LeO.ite ?_ ?_
   | refine LeO.bind ?_ (fun _ => ?_)
set_option maxHeartbeats 8000000 in
set_option maxRecDepth 100000 in
theorem quoinlaw26_ApplyEven.calls (k : Nat) (A0 : Option Addr) (c0 : Nat) (l0 : List Int) (A1 : Option Addr) (c1 : Nat) (l1 : List Int) (a2 : Int) (a3 : Int) (r : Bool) (w : World) (hr0 : Kd.C (Kd.int .u8) w A0 l0.length l0) (hc0 : l0.length ≤ c0) (hr1 : Kd.C (Kd.int .u8) w A1 l1.length l1) (hc1 : l1.length ≤ c1) (h : quoinlaw26_ApplyEven.f k l0 l1 a2 a3 = some r) :
  Calls Try.prog 8 #[.slice A0 l0.length c0, .slice A1 l1.length c1, .int .u8 a2, .int .i64 a3] w fun e w' => e = .returned (.bool r) ∧ Below w.heap.size w w' := by
 have HR0 := Aside0.mk hr0
 have HC0 := Aside0.mk hc0
 clear hr0 hc0
 have HR1 := Aside0.mk hr1
 have HC1 := Aside0.mk hc1
 clear hr1 hc1
 have HB := Aside0.mk (Below.refl w.heap.size w)
 have H : ((quoinlaw26_alive.f k).bind fun t395 => (if (l0.length : Int) > 1000 then (quoinlaw26_ApplyEven.j0 k l0 l1 a2 a3 t395 true) else (if (l1.length : Int) > 1000 then (quoinlaw26_ApplyEven.j0 k l0 l1 a2 a3 t395 true) else (quoinlaw26_ApplyEven.j0 k l0 l1 a2 a3 t395 ((l0.length : Int) != (l1.length : Int)))))) = some r := h
 clear h
 replace H := Option.bind_eq_some_iff.mp H
 obtain ⟨t395, A50, H⟩ := H
 replace H : (if (l0.length : Int) > 1000 then (quoinlaw26_ApplyEven.j0 k l0 l1 a2 a3 t395 true) else (if (l1.length : Int) > 1000 then (quoinlaw26_ApplyEven.j0 k l0 l1 a2 a3 t395 true) else (quoinlaw26_ApplyEven.j0 k l0 l1 a2 a3 t395 ((l0.length : Int) != (l1.length : Int))))) = some r := H
 have A5 := Aside0.mk A50
 clear A50
 have HC6 := Aside0.mk H
 clear H
 go_enter Try.func8, Try.ntmps8
 go_upto_region 2 with (first | ((with_reducible refine gate_callee (f := 12) rfl ?_); refine goesL_ (some 16) rfl rfl Try.func12 (by kernel_rfl) rfl #[] rfl (by (try simp only [List.map_toArray, List.map_cons, List.map_nil]); first | done | rfl | (simp only [List.length_drop, List.length_take]; rfl)) ?_; (with_reducible refine (quoinlaw26_alive.calls k  t395 _ A5.out).mono ?_); rintro e w7 ⟨rfl, hb⟩; refine ⟨_, rfl, ?_⟩; have n0_ := Aside0.mk (below_step (by repeat (first | (with_reducible first | exact HB.out | apply below_alloc | apply pw_below_drewN | apply below_drew1) | exact HB.out)) hb); clear HB; have HB := n0_; clear n0_; (try clear hb); (try clear hb2); (try clear hk); (try clear hi)))
 (try simp only [Act.put, List.setIfInBounds_toArray, List.set_cons_zero, List.set_cons_succ])
 go_cut [31] (fun v31 wc => ∃ (kq : Nat) (x31_5 : Bool), v31 = .bool x31_5 ∧ Aside0 (quoinlaw26_ApplyEven.j0 kq l0 l1 a2 a3 t395 x31_5 = some r) ∧ Aside0 (kq ≤ k) ∧ Aside0 (Below w.heap.size w wc))
 case first =>
  have H := HC6.out
  clear HC6
  by_cases c8 : (l0.length : Int) > 1000
  ·
   rw [if_pos c8] at H
   have c8b0 : decide (1000 < (l0.length : Int)) = true := decide_eq_true c8
   have c8b1 : decide (1000 < l0.length) = true := decide_eq_true (by omega)
   clear c8
   (first | rw [c8b0] | (simp only [i64_w, i32_w]; rw [c8b0]) | skip)
   have H' := Aside0.mk H
   clear H
   go_wp2
   go_meet
   case rel => exact ⟨_, (true), (by first | rfl | (simp; done) | (simp [*]; done)), H', ⟨by first | omega | exact Nat.le_refl _⟩, ⟨by repeat (first | (with_reducible first | exact HB.out | apply below_alloc | apply pw_below_drewN | apply below_drew1) | exact HB.out)⟩⟩
  ·
   rw [if_neg c8] at H
   have c8b0 : decide (1000 < (l0.length : Int)) = false := decide_eq_false c8
   have c8b1 : decide (1000 < l0.length) = false := decide_eq_false (by omega)
   clear c8
   (first | rw [c8b0] | (simp only [i64_w, i32_w]; rw [c8b0]) | skip)
   by_cases c9 : (l1.length : Int) > 1000
   ·
    rw [if_pos c9] at H
    have c9b0 : decide (1000 < (l1.length : Int)) = true := decide_eq_true c9
    have c9b1 : decide (1000 < l1.length) = true := decide_eq_true (by omega)
    clear c9
    have H' := Aside0.mk H
    clear H
    go_wp2
    go_meet
    case rel => exact ⟨_, (true), (by first | rfl | (simp; done) | (simp [*]; done)), H', ⟨by first | omega | exact Nat.le_refl _⟩, ⟨by repeat (first | (with_reducible first | exact HB.out | apply below_alloc | apply pw_below_drewN | apply below_drew1) | exact HB.out)⟩⟩
   ·
    rw [if_neg c9] at H
    have c9b0 : decide (1000 < (l1.length : Int)) = false := decide_eq_false c9
    have c9b1 : decide (1000 < l1.length) = false := decide_eq_false (by omega)
    clear c9
    have H' := Aside0.mk H
    clear H
    go_wp2
    go_meet
    case rel => exact ⟨_, (((l0.length : Int) != (l1.length : Int))), (by first | rfl | (simp; done) | (simp [*]; done)), H', ⟨by first | omega | exact Nat.le_refl _⟩, ⟨by repeat (first | (with_reducible first | exact HB.out | apply below_alloc | apply pw_below_drewN | apply below_drew1) | exact HB.out)⟩⟩
 case rest =>
  clear HC6
  try clear c1
  try clear p2
  try clear c8
  try clear c8b0
  try clear c8b1
  try clear c9
  try clear c9b0
  try clear c9b1
  obtain ⟨kq, x31_5, rfl, HA, HJ5, HB⟩ := hcut
  cases kq with
  | zero => exact absurd HA.out (by simp [quoinlaw26_ApplyEven.j0])
  | succ kj5 =>
   have H := HA.out
   clear HA
   simp only [quoinlaw26_ApplyEven.j0] at H
   by_cases c10 : x31_5 = true
   ·
    subst c10
    have H1 : (some t395) = some r := by rw [if_pos rfl] at H; exact H
    clear H
    have H := H1
    clear H1
    obtain rfl := Option.some.inj H
    go_wp2
    go_ret
    exact ⟨by first | rfl | (simp [errW_none, errW_some] <;> rfl) | (simp [*, errW_none, errW_some] <;> rfl), by repeat (first | (with_reducible first | exact HB.out | apply below_alloc | apply pw_below_drewN | apply below_drew1) | exact HB.out)⟩
   ·
    replace c10 := Bool.eq_false_iff.mpr c10
    subst c10
    have H1 : ((apply_Fix.f kj5 l0 a2 a3).bind fun bt396 => ((apply_Fix.f kj5 l1 a2 a3).bind fun bt400 => (if bt396.2 = bt400.2 then (if bt396.2 = 0 then (quoinlaw26_ApplyEven.j1 kj5 l0 a2 a3 t395 bt396.1 bt396.2 false) else (if (bt396.1.length : Int) = 0 then (quoinlaw26_ApplyEven.j1 kj5 l0 a2 a3 t395 bt396.1 bt396.2 ((bt400.1.length : Int) != 0)) else (none))) else (none)))) = some r := by rw [if_neg (show ¬ (false = true) by decide)] at H; exact H
    clear H
    have H := H1
    clear H1
    replace H := Option.bind_eq_some_iff.mp H
    obtain ⟨⟨t396, t397⟩, A110, H⟩ := H
    replace H : ((apply_Fix.f kj5 l1 a2 a3).bind fun bt400 => (if t397 = bt400.2 then (if t397 = 0 then (quoinlaw26_ApplyEven.j1 kj5 l0 a2 a3 t395 t396 t397 false) else (if (t396.length : Int) = 0 then (quoinlaw26_ApplyEven.j1 kj5 l0 a2 a3 t395 t396 t397 ((bt400.1.length : Int) != 0)) else (none))) else (none))) = some r := H
    have A11 := Aside0.mk A110
    clear A110
    replace H := Option.bind_eq_some_iff.mp H
    obtain ⟨⟨t400, t401⟩, A120, H⟩ := H
    replace H : (if t397 = t401 then (if t397 = 0 then (quoinlaw26_ApplyEven.j1 kj5 l0 a2 a3 t395 t396 t397 false) else (if (t396.length : Int) = 0 then (quoinlaw26_ApplyEven.j1 kj5 l0 a2 a3 t395 t396 t397 ((t400.length : Int) != 0)) else (none))) else (none)) = some r := H
    have A12 := Aside0.mk A120
    clear A120
    have HC13 := Aside0.mk H
    clear H
    go_upto_region 6 with (first | ((with_reducible refine gate_callee (f := 11) rfl ?_); refine goesL_ (some 37) rfl rfl Try.func11 (by kernel_rfl) rfl #[.slice A0 l0.length c0, .int .u8 a2, .int .i64 a3] rfl (by (try simp only [List.map_toArray, List.map_cons, List.map_nil]); first | done | rfl | (simp only [List.length_drop, List.length_take]; rfl)) ?_; (with_reducible refine (apply_Fix.calls kj5 _ _ l0 a2 a3 t396 t397 _ ?side1 ?side2 A11.out).mono ?_); (case side1 => repeat (first | exact (Kd.C_below HR0.out HB.out) | (with_reducible refine Kd.C_alloc ?_ _) | (with_reducible refine Kd.C_drewN ?_ _) | (with_reducible refine Kd.C_drew ?_))); (case side2 => exact HC0.out); rintro e w14 ⟨v398, rfl, ho0, hb⟩; refine ⟨_, rfl, ?_⟩; have n0_ := Aside0.mk (Kd.Q_lower ho0 (below_size (by repeat (first | (with_reducible first | exact HB.out | apply below_alloc | apply pw_below_drewN | apply below_drew1) | exact HB.out)))); have n1_ := Aside0.mk (below_step (by repeat (first | (with_reducible first | exact HB.out | apply below_alloc | apply pw_below_drewN | apply below_drew1) | exact HB.out)) hb); clear HB; have HO399 := n0_; have HB := n1_; clear n0_ n1_; (try clear hb); (try clear hb2); (try clear hk); (try clear hi); (try clear ho0)) | ((with_reducible refine gate_callee (f := 11) rfl ?_); refine goesL_ (some 44) rfl rfl Try.func11 (by kernel_rfl) rfl #[.slice A1 l1.length c1, .int .u8 a2, .int .i64 a3] rfl (by (try simp only [List.map_toArray, List.map_cons, List.map_nil]); first | done | rfl | (simp only [List.length_drop, List.length_take]; rfl)) ?_; (with_reducible refine (apply_Fix.calls kj5 _ _ l1 a2 a3 t400 t401 _ ?side1 ?side2 A12.out).mono ?_); (case side1 => repeat (first | exact (Kd.C_below HR1.out HB.out) | (with_reducible refine Kd.C_alloc ?_ _) | (with_reducible refine Kd.C_drewN ?_ _) | (with_reducible refine Kd.C_drew ?_))); (case side2 => exact HC1.out); rintro e w15 ⟨v402, rfl, ho0, hb⟩; refine ⟨_, rfl, ?_⟩; have n0_ := Aside0.mk (Kd.Q_elder' (by (with_reducible repeat (first | apply Kd.Q_alloc | apply Kd.Q_drewN | apply Kd.Q_drew)); exact HO399.out) (Kd.Q_base ho0) hb); have n1_ := Aside0.mk (Kd.Q_lower (Kd.Q_new' ho0 (Kd.Q_lt (by (with_reducible repeat (first | apply Kd.Q_alloc | apply Kd.Q_drewN | apply Kd.Q_drew)); exact HO399.out))) (below_size (by repeat (first | (with_reducible first | exact HB.out | apply below_alloc | apply pw_below_drewN | apply below_drew1) | exact HB.out)))); have n2_ := Aside0.mk (below_step (by repeat (first | (with_reducible first | exact HB.out | apply below_alloc | apply pw_below_drewN | apply below_drew1) | exact HB.out)) hb); clear HO399; clear HB; have HO399 := n0_; have HO403 := n1_; have HB := n2_; clear n0_ n1_ n2_; (try clear hb); (try clear hb2); (try clear hk); (try clear hi); (try clear ho0)))
    (try simp only [Act.put, List.setIfInBounds_toArray, List.set_cons_zero, List.set_cons_succ])
    go_cut [63] (fun v63 wc => ∃ (kq : Nat) (x63_12 : Bool), v63 = .bool x63_12 ∧ Aside0 (quoinlaw26_ApplyEven.j1 kq l0 a2 a3 t395 t396 t397 x63_12 = some r) ∧ Aside0 (kq ≤ kj5) ∧ Aside0 (Kd.Q (Kd.int .u8) 5 wc w.heap.size (fun _ => True) v398 t396) ∧ Aside0 (Below w.heap.size w wc))
    case first =>
     have H := HC13.out
     clear HC13
     by_cases c16 : t397 = t401
     ·
      rw [if_pos c16] at H
      have c16b0 : (t397 == t401) = true := beq_iff_eq.mpr c16
      have c16b1 : (t397 != t401) = false := bne_eq_false_iff_eq.mpr c16
      clear c16
      (first | rw [c16b0] | (simp only [i64_w, i32_w]; rw [c16b0]) | skip)
      by_cases c17 : t397 = 0
      ·
       rw [if_pos c17] at H
       have c17b0 : (t397 == 0) = true := beq_iff_eq.mpr c17
       have c17b1 : (t397 != 0) = false := bne_eq_false_iff_eq.mpr c17
       clear c17
       have H' := Aside0.mk H
       clear H
       go_wp2
       go_meet
       case rel => exact ⟨_, (false), (by first | rfl | (simp; done) | (simp [*]; done)), H', ⟨by have := HJ5.out; first | omega | exact Nat.le_refl _⟩, ⟨by (with_reducible repeat (first | apply Kd.Q_alloc | apply Kd.Q_drewN | apply Kd.Q_drew)); exact Kd.Q_mono HO399.out (fun _ hk => trivial)⟩, ⟨by repeat (first | (with_reducible first | exact HB.out | apply below_alloc | apply pw_below_drewN | apply below_drew1) | exact HB.out)⟩⟩
      ·
       rw [if_neg c17] at H
       have c17b0 : (t397 == 0) = false := beq_eq_false_iff_ne.mpr c17
       have c17b1 : (t397 != 0) = true := bne_iff_ne.mpr c17
       by_cases c18 : (t396.length : Int) = 0
       ·
        rw [if_pos c18] at H
        have c18b0 : ((t396.length : Int) == 0) = true := beq_iff_eq.mpr c18
        have c18b1 : ((t396.length : Int) != 0) = false := bne_eq_false_iff_eq.mpr c18
        clear c18
        have H' := Aside0.mk H
        clear H
        obtain ⟨Ao19, co19, eo19, _⟩ := Kd.Q_slice HO399.out
        subst eo19
        obtain ⟨Ao20, co20, eo20, _⟩ := Kd.Q_slice HO403.out
        subst eo20
        go_wp2
        go_meet
        case rel => exact ⟨_, (((t400.length : Int) != 0)), (by first | rfl | (simp; done) | (simp [*]; done)), H', ⟨by have := HJ5.out; first | omega | exact Nat.le_refl _⟩, ⟨by (with_reducible repeat (first | apply Kd.Q_alloc | apply Kd.Q_drewN | apply Kd.Q_drew)); exact Kd.Q_mono HO399.out (fun _ hk => trivial)⟩, ⟨by repeat (first | (with_reducible first | exact HB.out | apply below_alloc | apply pw_below_drewN | apply below_drew1) | exact HB.out)⟩⟩
       ·
        rw [if_neg c18] at H
        exact absurd H (by simp)
     ·
      rw [if_neg c16] at H
      exact absurd H (by simp)
    case rest =>
     clear HC13
     try clear c1
     try clear p2
     try clear c8
     try clear c8b0
     try clear c8b1
     try clear c9
     try clear c9b0
     try clear c9b1
     try clear c10
     try clear c11
     try clear c12
     try clear c16
     try clear c16b0
     try clear c16b1
     try clear c17
     try clear c17b0
     try clear c17b1
     try clear c18
     try clear c18b0
     try clear c18b1
     try clear p2
     obtain ⟨kq, x63_12, rfl, HA, HJ12, HO_10, HB⟩ := hcut
     cases kq with
     | zero => exact absurd HA.out (by simp [quoinlaw26_ApplyEven.j1])
     | succ kj12 =>
      have H := HA.out
      clear HA
      simp only [quoinlaw26_ApplyEven.j1] at H
      by_cases c21 : x63_12 = true
      ·
       subst c21
       have H1 : (none) = some r := by rw [if_pos rfl] at H; exact H
       clear H
       have H := H1
       clear H1
       exact absurd H (by simp)
      ·
       replace c21 := Bool.eq_false_iff.mpr c21
       subst c21
       have H1 : (if t397 = 0 then ((apply_Fix.f kj12 t396 a2 a3).bind fun bt404 => (if t395 = true then (if bt404.2 = 0 then (if (t396.length : Int) = (l0.length : Int) then ((quoinlaw26_sums.f a2).bind fun t408 => (if t408 = true then (some true) else (some ((strOfNums bt404.1).toList == (strOfNums t396).toList)))) else (none)) else (none)) else (none))) else (if t395 = true then (if t397 = 261 then (some ((Int.tmod a3 2) != 0)) else (some true)) else (none))) = some r := by rw [if_neg (show ¬ (false = true) by decide)] at H; exact H
       clear H
       have H := H1
       clear H1
       by_cases c22 : t397 = 0
       ·
        rw [if_pos c22] at H
        have c22b0 : (t397 == 0) = true := beq_iff_eq.mpr c22
        have c22b1 : (t397 != 0) = false := bne_eq_false_iff_eq.mpr c22
        clear c22
        replace H := Option.bind_eq_some_iff.mp H
        obtain ⟨⟨t404, t405⟩, A230, H⟩ := H
        replace H : (if t395 = true then (if t405 = 0 then (if (t396.length : Int) = (l0.length : Int) then ((quoinlaw26_sums.f a2).bind fun t408 => (if t408 = true then (some true) else (some ((strOfNums t404).toList == (strOfNums t396).toList)))) else (none)) else (none)) else (none)) = some r := H
        have A23 := Aside0.mk A230
        clear A230
        by_cases c24 : t395 = true
        ·
         subst c24
         have H1 : (if t405 = 0 then (if (t396.length : Int) = (l0.length : Int) then ((quoinlaw26_sums.f a2).bind fun t408 => (if t408 = true then (some true) else (some ((strOfNums t404).toList == (strOfNums t396).toList)))) else (none)) else (none)) = some r := by rw [if_pos rfl] at H; exact H
         clear H
         have H := H1
         clear H1
         by_cases c25 : t405 = 0
         ·
          rw [if_pos c25] at H
          have c25b0 : (t405 == 0) = true := beq_iff_eq.mpr c25
          have c25b1 : (t405 != 0) = false := bne_eq_false_iff_eq.mpr c25
          clear c25
          by_cases c26 : (t396.length : Int) = (l0.length : Int)
          ·
           rw [if_pos c26] at H
           have c26b0 : ((t396.length : Int) == (l0.length : Int)) = true := beq_iff_eq.mpr c26
           have c26b1 : ((t396.length : Int) != (l0.length : Int)) = false := bne_eq_false_iff_eq.mpr c26
           have c26b2 : (t396.length == l0.length) = true := by first | simpa using c26 | (simp at c26 ⊢; omega)
           clear c26
           replace H := Option.bind_eq_some_iff.mp H
           obtain ⟨t408, A270, H⟩ := H
           replace H : (if t408 = true then (some true) else (some ((strOfNums t404).toList == (strOfNums t396).toList))) = some r := H
           have A27 := Aside0.mk A270
           clear A270
           by_cases c28 : t408 = true
           ·
            subst c28
            have H1 : (some true) = some r := by rw [if_pos rfl] at H; exact H
            clear H
            have H := H1
            clear H1
            obtain rfl := Option.some.inj H
            obtain ⟨Ao29, co29, eo29, _⟩ := Kd.Q_slice HO_10.out
            subst eo29
            go_wp2_with (first | ((with_reducible refine gate_callee (f := 11) rfl ?_); refine goesL_ (some 80) rfl rfl Try.func11 (by kernel_rfl) rfl #[.slice Ao29 t396.length co29, .int .u8 a2, .int .i64 a3] rfl (by (try simp only [List.map_toArray, List.map_cons, List.map_nil]); first | done | rfl | (simp only [List.length_drop, List.length_take]; rfl)) ?_; (with_reducible refine (apply_Fix.calls kj12 _ _ t396 a2 a3 t404 t405 _ ?side1 ?side2 A23.out).mono ?_); (case side1 => repeat (first | exact (Kd.Q_reads' HO_10.out).2.2 | (with_reducible refine Kd.C_alloc ?_ _) | (with_reducible refine Kd.C_drewN ?_ _) | (with_reducible refine Kd.C_drew ?_))); (case side2 => exact (Kd.Q_reads' HO_10.out).2.1); rintro e w30 ⟨v406, rfl, ho0, hb⟩; refine ⟨_, rfl, ?_⟩; have n0_ := Aside0.mk (Kd.Q_elder' (by (with_reducible repeat (first | apply Kd.Q_alloc | apply Kd.Q_drewN | apply Kd.Q_drew)); exact HO_10.out) (Kd.Q_base ho0) hb); have n1_ := Aside0.mk (Kd.Q_lower (Kd.Q_new' ho0 (Kd.Q_lt (by (with_reducible repeat (first | apply Kd.Q_alloc | apply Kd.Q_drewN | apply Kd.Q_drew)); exact HO_10.out))) (below_size (by repeat (first | (with_reducible first | exact HB.out | apply below_alloc | apply pw_below_drewN | apply below_drew1) | exact HB.out)))); have n2_ := Aside0.mk (below_step (by repeat (first | (with_reducible first | exact HB.out | apply below_alloc | apply pw_below_drewN | apply below_drew1) | exact HB.out)) hb); clear HO_10; clear HB; have HO_10 := n0_; have HO407 := n1_; have HB := n2_; clear n0_ n1_ n2_; (try clear hb); (try clear hb2); (try clear hk); (try clear hi); (try clear ho0)) | (go_at_call 16; (with_reducible refine (quoinlaw26_sums.calls a2 true _ A27.out).mono ?_); rintro e w' ⟨rfl, ⟨nd, rfl⟩⟩))
            go_ret
            exact ⟨by first | rfl | (simp [errW_none, errW_some] <;> rfl) | (simp [*, errW_none, errW_some] <;> rfl), by repeat (first | (with_reducible first | exact HB.out | apply below_alloc | apply pw_below_drewN | apply below_drew1) | exact HB.out)⟩
           ·
            replace c28 := Bool.eq_false_iff.mpr c28
            subst c28
            have H1 : (some ((strOfNums t404).toList == (strOfNums t396).toList)) = some r := by rw [if_neg (show ¬ (false = true) by decide)] at H; exact H
            clear H
            have H := H1
            clear H1
            obtain rfl := Option.some.inj H
            obtain ⟨Ao31, co31, eo31, _⟩ := Kd.Q_slice HO_10.out
            subst eo31
            go_wp2_with (first | ((with_reducible refine gate_callee (f := 11) rfl ?_); refine goesL_ (some 80) rfl rfl Try.func11 (by kernel_rfl) rfl #[.slice Ao31 t396.length co31, .int .u8 a2, .int .i64 a3] rfl (by (try simp only [List.map_toArray, List.map_cons, List.map_nil]); first | done | rfl | (simp only [List.length_drop, List.length_take]; rfl)) ?_; (with_reducible refine (apply_Fix.calls kj12 _ _ t396 a2 a3 t404 t405 _ ?side1 ?side2 A23.out).mono ?_); (case side1 => repeat (first | exact (Kd.Q_reads' HO_10.out).2.2 | (with_reducible refine Kd.C_alloc ?_ _) | (with_reducible refine Kd.C_drewN ?_ _) | (with_reducible refine Kd.C_drew ?_))); (case side2 => exact (Kd.Q_reads' HO_10.out).2.1); rintro e w32 ⟨v406, rfl, ho0, hb⟩; refine ⟨_, rfl, ?_⟩; have n0_ := Aside0.mk (Kd.Q_elder' (by (with_reducible repeat (first | apply Kd.Q_alloc | apply Kd.Q_drewN | apply Kd.Q_drew)); exact HO_10.out) (Kd.Q_base ho0) hb); have n1_ := Aside0.mk (Kd.Q_lower (Kd.Q_new' ho0 (Kd.Q_lt (by (with_reducible repeat (first | apply Kd.Q_alloc | apply Kd.Q_drewN | apply Kd.Q_drew)); exact HO_10.out))) (below_size (by repeat (first | (with_reducible first | exact HB.out | apply below_alloc | apply pw_below_drewN | apply below_drew1) | exact HB.out)))); have n2_ := Aside0.mk (below_step (by repeat (first | (with_reducible first | exact HB.out | apply below_alloc | apply pw_below_drewN | apply below_drew1) | exact HB.out)) hb); clear HO_10; clear HB; have HO_10 := n0_; have HO407 := n1_; have HB := n2_; clear n0_ n1_ n2_; (try clear hb); (try clear hb2); (try clear hk); (try clear hi); (try clear ho0)) | (go_at_call 16; (with_reducible refine (quoinlaw26_sums.calls a2 false _ A27.out).mono ?_); rintro e w' ⟨rfl, ⟨nd, rfl⟩⟩; have hcv33 := Kd.Q_string (P := Try.prog) Try.underlying25 Try.underlying5 Try.underlying9 (HO407.out); have hcv34 := fun n_ : Nat => Kd.Q_string (P := Try.prog) Try.underlying25 Try.underlying5 Try.underlying9 ((Kd.Q_drewN HO407.out n_)); have hcv35 := Kd.Q_string (P := Try.prog) Try.underlying25 Try.underlying5 Try.underlying9 (HO_10.out); have hcv36 := fun n_ : Nat => Kd.Q_string (P := Try.prog) Try.underlying25 Try.underlying5 Try.underlying9 ((Kd.Q_drewN HO_10.out n_))))
            go_ret
            exact ⟨by first | rfl | (simp [errW_none, errW_some] <;> rfl) | (simp [*, errW_none, errW_some] <;> rfl), by repeat (first | (with_reducible first | exact HB.out | apply below_alloc | apply pw_below_drewN | apply below_drew1) | exact HB.out)⟩
          ·
           rw [if_neg c26] at H
           exact absurd H (by simp)
         ·
          rw [if_neg c25] at H
          exact absurd H (by simp)
        ·
         replace c24 := Bool.eq_false_iff.mpr c24
         subst c24
         have H1 : (none) = some r := by rw [if_neg (show ¬ (false = true) by decide)] at H; exact H
         clear H
         have H := H1
         clear H1
         exact absurd H (by simp)
       ·
        rw [if_neg c22] at H
        have c22b0 : (t397 == 0) = false := beq_eq_false_iff_ne.mpr c22
        have c22b1 : (t397 != 0) = true := bne_iff_ne.mpr c22
        by_cases c37 : t395 = true
        ·
         subst c37
         have H1 : (if t397 = 261 then (some ((Int.tmod a3 2) != 0)) else (some true)) = some r := by rw [if_pos rfl] at H; exact H
         clear H
         have H := H1
         clear H1
         by_cases c38 : t397 = 261
         ·
          rw [if_pos c38] at H
          have c38b0 : (t397 == 261) = true := beq_iff_eq.mpr c38
          have c38b1 : (t397 != 261) = false := bne_eq_false_iff_eq.mpr c38
          clear c38
          obtain rfl := Option.some.inj H
          go_wp2
          go_ret
          exact ⟨by first | rfl | (simp [errW_none, errW_some] <;> rfl) | (simp [*, errW_none, errW_some] <;> rfl), by repeat (first | (with_reducible first | exact HB.out | apply below_alloc | apply pw_below_drewN | apply below_drew1) | exact HB.out)⟩
         ·
          rw [if_neg c38] at H
          have c38b0 : (t397 == 261) = false := beq_eq_false_iff_ne.mpr c38
          have c38b1 : (t397 != 261) = true := bne_iff_ne.mpr c38
          obtain rfl := Option.some.inj H
          go_wp2
          go_ret
          exact ⟨by first | rfl | (simp [errW_none, errW_some] <;> rfl) | (simp [*, errW_none, errW_some] <;> rfl), by repeat (first | (with_reducible first | exact HB.out | apply below_alloc | apply pw_below_drewN | apply below_drew1) | exact HB.out)⟩
        ·
         replace c37 := Bool.eq_false_iff.mpr c37
         subst c37
         have H1 : (none) = some r := by rw [if_neg (show ¬ (false = true) by decide)] at H; exact H
         clear H
         have H := H1
         clear H1
         exact absurd H (by simp)

/-- THE ONE PURE STATEMENT of quoinlaw26_ApplyEven: yours. -/
def quoinlaw26_ApplyEven.Pure : Prop := ∀ (l0 : List Int) (l1 : List Int) (a2 : Int) (a3 : Int), l0.length ≤ maxLen → l0.length * 1 ≤ 140737488351232 → (∀ x ∈ l0, (Lit.int .u8 x).wf = true) → l1.length ≤ maxLen → l1.length * 1 ≤ 140737488351232 → (∀ x ∈ l1, (Lit.int .u8 x).wf = true) → (Lit.int .u8 a2).wf = true → (Lit.int .i64 a3).wf = true → ∃ k, quoinlaw26_ApplyEven.f k l0 l1 a2 a3 = some true
theorem quoinlaw26_ApplyEven.walk (P : quoinlaw26_ApplyEven.Pure) (a0 : Option Addr) (len0 cap0 : Nat) (z0 : List Int) (a1 : Option Addr) (len1 cap1 : Nat) (z1 : List Int) (a2 : Int) (a3 : Int) (w : World) (w0 : (a0 = none ∧ len0 = 0 ∧ cap0 = 0 ∧ z0 = []) ∨ ∃ x, a0 = some x ∧ len0 ≤ cap0 ∧ cap0 ≤ maxLen ∧ z0.length = cap0 ∧ (∀ i, i < z0.length → w.cell? (x.add i) = some (.int .u8 (z0.getD i 0))) ∧ ∀ n ∈ z0, (Lit.int .u8 n).wf = true) (y0 : len0 * 1 ≤ 140737488351232) (w1 : (a1 = none ∧ len1 = 0 ∧ cap1 = 0 ∧ z1 = []) ∨ ∃ x, a1 = some x ∧ len1 ≤ cap1 ∧ cap1 ≤ maxLen ∧ z1.length = cap1 ∧ (∀ i, i < z1.length → w.cell? (x.add i) = some (.int .u8 (z1.getD i 0))) ∧ ∀ n ∈ z1, (Lit.int .u8 n).wf = true) (y1 : len1 * 1 ≤ 140737488351232) (w2 : (Lit.int .u8 a2).wf = true) (w3 : (Lit.int .i64 a3).wf = true) :
  Calls Try.prog 8 #[.slice a0 len0 cap0, .slice a1 len1 cap1, .int .u8 a2, .int .i64 a3] w fun e w' => e = .returned (.bool true) ∧ Below w.heap.size w w' := by
 obtain ⟨l0, rfl, hr0, hm0, hw0, hc0⟩ := ReadsInt.ofRowC w0
 obtain ⟨l1, rfl, hr1, hm1, hw1, hc1⟩ := ReadsInt.ofRowC w1
 obtain ⟨k, h⟩ := P l0 l1 a2 a3 hm0 y0 hw0 hm1 y1 hw1 w2 w3
 refine (quoinlaw26_ApplyEven.calls k _ _ l0 _ _ l1 a2 a3 true w (Kd.C_of_reads (d := (0 : Int)) (h1 := fun _ => rfl) hr0) hc0 (Kd.C_of_reads (d := (0 : Int)) (h1 := fun _ => rfl) hr1) hc1 h).mono ?_
 rintro e w' ⟨rfl, hd⟩
 exact ⟨rfl, hd⟩

end Go.Proofs.Ytoljgjnbkejhaaa.P
