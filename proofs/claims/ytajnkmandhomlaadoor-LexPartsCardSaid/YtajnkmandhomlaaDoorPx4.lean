-- Written by pext.py, a program of this session, over the kit's print: a function's contract
import Derived.Test.YtajnkmandhomlaaDoorPx0
import Derived.Test.YtajnkmandhomlaaDoorPx1
import Derived.Test.YtajnkmandhomlaaDoorPx2
namespace Go.Proofs.YtajnkmandhomlaaDoor.P
open Go.RowKit Go.Proofs.YtajnkmandhomlaaDoorW.PrintWords Go.Proofs.YtajnkmandhomlaaDoorW.PrintLast Go.Proofs.YtajnkmandhomlaaDoorW.PrintMore
attribute [local go_sem] max2_int min2_int max_two min_two max_three min_three max_four min_four   -- for this text's walks alone
set_option linter.unusedVariables false
set_option linter.unusedSimpArgs false

attribute [local go_sem high] eqA23
/-! ### quoinlaw15_LexParts: function 5 -/
mutual
def quoinlaw15_LexParts.j0 : Nat → ByteArray → ByteArray → Bool → Bool → Option (Bool)
 | 0, _, _, _, _ => none
 | k + 1, x0, x1, x5, x35 => if x35 = true then (some x5) else (quoinlaw15_LexParts.l0 k x0 x1 x5 0)
def quoinlaw15_LexParts.l0 : Nat → ByteArray → ByteArray → Bool → Int → Option (Bool)
 | 0, _, _, _, _ => none
 | k + 1, x0, x1, x5, x6 => if x6 < (x0.size : Int) then (if 0 ≤ x6 then (if (bt x0 x6) = 35 then (some x5) else (quoinlaw15_LexParts.l0 k x0 x1 x5 (wrap64 (x6 + 1)))) else (none)) else ((lex_Tokens.f x0).bind fun bt158 => ((lex_Tokens.f x1).bind fun bt162 => (if x0.size + 1 ≤ 9223372036854775807 then (if (x0 ++ (⟨#[32]⟩ : ByteArray)).size + x1.size ≤ 9223372036854775807 then ((lex_Tokens.f ((x0 ++ (⟨#[32]⟩ : ByteArray)) ++ x1)).bind fun bt166 => (if bt158.2 = 0 then (quoinlaw15_LexParts.j2 k x5 bt158.1 bt162.1 bt166.1 bt166.2 (bt162.2 != 0)) else (quoinlaw15_LexParts.j2 k x5 bt158.1 bt162.1 bt166.1 bt166.2 true))) else (none)) else (none))))
def quoinlaw15_LexParts.j2 : Nat → Bool → List (S23) → List (S23) → List (S23) → Int → Bool → Option (Bool)
 | 0, _, _, _, _, _, _ => none
 | k + 1, x5, x7, x9, x11, x12, x71 => if x71 = true then (some x5) else (if x12 = 0 then (quoinlaw15_LexParts.j3 k x7 x9 x11 x12 ((x11.length : Int) != (wrap64 ((x7.length : Int) + (x9.length : Int))))) else (quoinlaw15_LexParts.j3 k x7 x9 x11 x12 true))
def quoinlaw15_LexParts.j3 : Nat → List (S23) → List (S23) → List (S23) → Int → Bool → Option (Bool)
 | 0, _, _, _, _, _ => none
 | k + 1, x7, x9, x11, x12, x84 => if x84 = true then (some (x12 == 4)) else (quoinlaw15_LexParts.l1 k x7 x9 x11 0)
def quoinlaw15_LexParts.l1 : Nat → List (S23) → List (S23) → List (S23) → Int → Option (Bool)
 | 0, _, _, _, _ => none
 | k + 1, x7, x9, x11, x13 => if x13 < (x11.length : Int) then (if x13 < (x7.length : Int) then (if 0 ≤ x13 then (if (!(((rd_T23 x11 x13).f0) == ((rd_T23 x7 x13).f0)) || (!((((rd_T23 x11 x13).f1).toList) == (((rd_T23 x7 x13).f1).toList)) || (!(((rd_T23 x11 x13).f2) == ((rd_T23 x7 x13).f2))))) = true then (none) else (if x13 ≥ (x7.length : Int) then (if 0 ≤ (wrap64 (x13 - (x7.length : Int))) then (if (wrap64 (x13 - (x7.length : Int))) < (x9.length : Int) then (if (!(((rd_T23 x11 x13).f0) == ((rd_T23 x9 (wrap64 (x13 - (x7.length : Int)))).f0)) || (!((((rd_T23 x11 x13).f1).toList) == (((rd_T23 x9 (wrap64 (x13 - (x7.length : Int)))).f1).toList)) || (!(((rd_T23 x11 x13).f2) == ((rd_T23 x9 (wrap64 (x13 - (x7.length : Int)))).f2))))) = true then (none) else (quoinlaw15_LexParts.l1 k x7 x9 x11 (wrap64 (x13 + 1)))) else (none)) else (none)) else (quoinlaw15_LexParts.l1 k x7 x9 x11 (wrap64 (x13 + 1))))) else (none)) else (if x13 ≥ (x7.length : Int) then (if 0 ≤ x13 then (if 0 ≤ (wrap64 (x13 - (x7.length : Int))) then (if (wrap64 (x13 - (x7.length : Int))) < (x9.length : Int) then (if (!(((rd_T23 x11 x13).f0) == ((rd_T23 x9 (wrap64 (x13 - (x7.length : Int)))).f0)) || (!((((rd_T23 x11 x13).f1).toList) == (((rd_T23 x9 (wrap64 (x13 - (x7.length : Int)))).f1).toList)) || (!(((rd_T23 x11 x13).f2) == ((rd_T23 x9 (wrap64 (x13 - (x7.length : Int)))).f2))))) = true then (none) else (quoinlaw15_LexParts.l1 k x7 x9 x11 (wrap64 (x13 + 1)))) else (none)) else (none)) else (none)) else (quoinlaw15_LexParts.l1 k x7 x9 x11 (wrap64 (x13 + 1))))) else (some true)
end
def quoinlaw15_LexParts.f (k : Nat) (a0 : ByteArray) (a1 : ByteArray) : Option (Bool) := (quoinlaw15_alive.f k).bind fun t157 => (if (a0.size : Int) > 1000 then (quoinlaw15_LexParts.j0 k a0 a1 t157 true) else (if (a1.size : Int) > 1000 then (quoinlaw15_LexParts.j0 k a0 a1 t157 true) else (if (wrap64 ((wrap64 ((a0.size : Int) + (a1.size : Int))) + 1)) > 256 then (quoinlaw15_LexParts.j0 k a0 a1 t157 true) else (quoinlaw15_LexParts.j0 k a0 a1 t157 (!t157)))))
theorem quoinlaw15_LexParts.mono_l : ∀ k, (∀ y0 y1 y2 y3, LeO (quoinlaw15_LexParts.j0 k y0 y1 y2 y3) (quoinlaw15_LexParts.j0 (k + 1) y0 y1 y2 y3)) ∧ (∀ y0 y1 y2 y3, LeO (quoinlaw15_LexParts.l0 k y0 y1 y2 y3) (quoinlaw15_LexParts.l0 (k + 1) y0 y1 y2 y3)) ∧ (∀ y0 y1 y2 y3 y4 y5, LeO (quoinlaw15_LexParts.j2 k y0 y1 y2 y3 y4 y5) (quoinlaw15_LexParts.j2 (k + 1) y0 y1 y2 y3 y4 y5)) ∧ (∀ y0 y1 y2 y3 y4, LeO (quoinlaw15_LexParts.j3 k y0 y1 y2 y3 y4) (quoinlaw15_LexParts.j3 (k + 1) y0 y1 y2 y3 y4)) ∧ (∀ y0 y1 y2 y3, LeO (quoinlaw15_LexParts.l1 k y0 y1 y2 y3) (quoinlaw15_LexParts.l1 (k + 1) y0 y1 y2 y3))
 | 0 => ⟨fun _ _ _ _ r h => by simp [quoinlaw15_LexParts.j0] at h, fun _ _ _ _ r h => by simp [quoinlaw15_LexParts.l0] at h, fun _ _ _ _ _ _ r h => by simp [quoinlaw15_LexParts.j2] at h, fun _ _ _ _ _ r h => by simp [quoinlaw15_LexParts.j3] at h, fun _ _ _ _ r h => by simp [quoinlaw15_LexParts.l1] at h⟩
 | k + 1 => by
  obtain ⟨ih0, ih1, ih2, ih3, ih4⟩ := quoinlaw15_LexParts.mono_l k
  refine ⟨?_, ?_, ?_, ?_, ?_⟩
  ·
   intro y0 y1 y2 y3
   unfold quoinlaw15_LexParts.j0
   repeat' first
   | (with_reducible exact ih0 _ _ _ _)
   | (with_reducible exact ih1 _ _ _ _)
   | (with_reducible exact ih2 _ _ _ _ _ _)
   | (with_reducible exact ih3 _ _ _ _ _)
   | (with_reducible exact ih4 _ _ _ _)
   | (with_reducible exact quoinlaw15_alive.mono _)
   | (with_reducible exact LeO.refl _)
   | (with_reducible exact LeO.none _)
   | (with_reducible refine LeO.ite ?_ ?_)
   | (with_reducible refine LeO.bind ?_ (fun _ => ?_))
   | exact ih0 _ _ _ _
   | exact ih1 _ _ _ _
   | exact ih2 _ _ _ _ _ _
   | exact ih3 _ _ _ _ _
   | exact ih4 _ _ _ _
   | exact quoinlaw15_alive.mono _
   | exact LeO.none _
   | refine LeO.ite ?_ ?_
   | refine LeO.bind ?_ (fun _ => ?_)
  ·
   intro y0 y1 y2 y3
   unfold quoinlaw15_LexParts.l0
   repeat' first
   | (with_reducible exact ih0 _ _ _ _)
   | (with_reducible exact ih1 _ _ _ _)
   | (with_reducible exact ih2 _ _ _ _ _ _)
   | (with_reducible exact ih3 _ _ _ _ _)
   | (with_reducible exact ih4 _ _ _ _)
   | (with_reducible exact quoinlaw15_alive.mono _)
   | (with_reducible exact LeO.refl _)
   | (with_reducible exact LeO.none _)
   | (with_reducible refine LeO.ite ?_ ?_)
   | (with_reducible refine LeO.bind ?_ (fun _ => ?_))
   | exact ih0 _ _ _ _
   | exact ih1 _ _ _ _
   | exact ih2 _ _ _ _ _ _
   | exact ih3 _ _ _ _ _
   | exact ih4 _ _ _ _
   | exact quoinlaw15_alive.mono _
   | exact LeO.none _
   | refine LeO.ite ?_ ?_
   | refine LeO.bind ?_ (fun _ => ?_)
  ·
   intro y0 y1 y2 y3 y4 y5
   unfold quoinlaw15_LexParts.j2
   repeat' first
   | (with_reducible exact ih0 _ _ _ _)
   | (with_reducible exact ih1 _ _ _ _)
   | (with_reducible exact ih2 _ _ _ _ _ _)
   | (with_reducible exact ih3 _ _ _ _ _)
   | (with_reducible exact ih4 _ _ _ _)
   | (with_reducible exact quoinlaw15_alive.mono _)
   | (with_reducible exact LeO.refl _)
   | (with_reducible exact LeO.none _)
   | (with_reducible refine LeO.ite ?_ ?_)
   | (with_reducible refine LeO.bind ?_ (fun _ => ?_))
   | exact ih0 _ _ _ _
   | exact ih1 _ _ _ _
   | exact ih2 _ _ _ _ _ _
   | exact ih3 _ _ _ _ _
   | exact ih4 _ _ _ _
   | exact quoinlaw15_alive.mono _
   | exact LeO.none _
   | refine LeO.ite ?_ ?_
   | refine LeO.bind ?_ (fun _ => ?_)
  ·
   intro y0 y1 y2 y3 y4
   unfold quoinlaw15_LexParts.j3
   repeat' first
   | (with_reducible exact ih0 _ _ _ _)
   | (with_reducible exact ih1 _ _ _ _)
   | (with_reducible exact ih2 _ _ _ _ _ _)
   | (with_reducible exact ih3 _ _ _ _ _)
   | (with_reducible exact ih4 _ _ _ _)
   | (with_reducible exact quoinlaw15_alive.mono _)
   | (with_reducible exact LeO.refl _)
   | (with_reducible exact LeO.none _)
   | (with_reducible refine LeO.ite ?_ ?_)
   | (with_reducible refine LeO.bind ?_ (fun _ => ?_))
   | exact ih0 _ _ _ _
   | exact ih1 _ _ _ _
   | exact ih2 _ _ _ _ _ _
   | exact ih3 _ _ _ _ _
   | exact ih4 _ _ _ _
   | exact quoinlaw15_alive.mono _
   | exact LeO.none _
   | refine LeO.ite ?_ ?_
   | refine LeO.bind ?_ (fun _ => ?_)
  ·
   intro y0 y1 y2 y3
   unfold quoinlaw15_LexParts.l1
   repeat' first
   | (with_reducible exact ih0 _ _ _ _)
   | (with_reducible exact ih1 _ _ _ _)
   | (with_reducible exact ih2 _ _ _ _ _ _)
   | (with_reducible exact ih3 _ _ _ _ _)
   | (with_reducible exact ih4 _ _ _ _)
   | (with_reducible exact quoinlaw15_alive.mono _)
   | (with_reducible exact LeO.refl _)
   | (with_reducible exact LeO.none _)
   | (with_reducible refine LeO.ite ?_ ?_)
   | (with_reducible refine LeO.bind ?_ (fun _ => ?_))
   | exact ih0 _ _ _ _
   | exact ih1 _ _ _ _
   | exact ih2 _ _ _ _ _ _
   | exact ih3 _ _ _ _ _
   | exact ih4 _ _ _ _
   | exact quoinlaw15_alive.mono _
   | exact LeO.none _
   | refine LeO.ite ?_ ?_
   | refine LeO.bind ?_ (fun _ => ?_)
theorem quoinlaw15_LexParts.mono : ∀ a0 a1 k, LeO (quoinlaw15_LexParts.f k a0 a1) (quoinlaw15_LexParts.f (k + 1) a0 a1) := by
 intro a0 a1 k
 obtain ⟨ih0, ih1, ih2, ih3, ih4⟩ := quoinlaw15_LexParts.mono_l k
 unfold quoinlaw15_LexParts.f
 repeat' first
   | (with_reducible exact ih0 _ _ _ _)
   | (with_reducible exact ih1 _ _ _ _)
   | (with_reducible exact ih2 _ _ _ _ _ _)
   | (with_reducible exact ih3 _ _ _ _ _)
   | (with_reducible exact ih4 _ _ _ _)
   | (with_reducible exact quoinlaw15_alive.mono _)
   | (with_reducible exact LeO.refl _)
   | (with_reducible exact LeO.none _)
   | (with_reducible refine LeO.ite ?_ ?_)
   | (with_reducible refine LeO.bind ?_ (fun _ => ?_))
   | exact ih0 _ _ _ _
   | exact ih1 _ _ _ _
   | exact ih2 _ _ _ _ _ _
   | exact ih3 _ _ _ _ _
   | exact ih4 _ _ _ _
   | exact quoinlaw15_alive.mono _
   | exact LeO.none _
   | refine LeO.ite ?_ ?_
   | refine LeO.bind ?_ (fun _ => ?_)
set_option maxHeartbeats 8000000 in
set_option maxRecDepth 100000 in
theorem quoinlaw15_LexParts.calls (k : Nat) (a0 : ByteArray) (a1 : ByteArray) (r : Bool) (w : World) (hE : LexW.LexE w) (h : quoinlaw15_LexParts.f k a0 a1 = some r) :
  Calls Tryd.prog 5 #[.string a0, .string a1] w fun e w' => e = .returned (.bool r) ∧ Below w.heap.size w w' := by
 have hu23 := Tryd.underlying23
 have HE_ := Aside0.mk hE
 clear hE
 have HB := Aside0.mk (Below.refl w.heap.size w)
 have H : ((quoinlaw15_alive.f k).bind fun t157 => (if (a0.size : Int) > 1000 then (quoinlaw15_LexParts.j0 k a0 a1 t157 true) else (if (a1.size : Int) > 1000 then (quoinlaw15_LexParts.j0 k a0 a1 t157 true) else (if (wrap64 ((wrap64 ((a0.size : Int) + (a1.size : Int))) + 1)) > 256 then (quoinlaw15_LexParts.j0 k a0 a1 t157 true) else (quoinlaw15_LexParts.j0 k a0 a1 t157 (!t157)))))) = some r := h
 clear h
 replace H := Option.bind_eq_some_iff.mp H
 obtain ⟨t157, A30, H⟩ := H
 replace H : (if (a0.size : Int) > 1000 then (quoinlaw15_LexParts.j0 k a0 a1 t157 true) else (if (a1.size : Int) > 1000 then (quoinlaw15_LexParts.j0 k a0 a1 t157 true) else (if (wrap64 ((wrap64 ((a0.size : Int) + (a1.size : Int))) + 1)) > 256 then (quoinlaw15_LexParts.j0 k a0 a1 t157 true) else (quoinlaw15_LexParts.j0 k a0 a1 t157 (!t157))))) = some r := H
 have A3 := Aside0.mk A30
 clear A30
 have HC4 := Aside0.mk H
 clear H
 go_enter Tryd.func5, Tryd.ntmps5
 go_upto_region 2 with (first | (go_at_call 15; (with_reducible refine (quoinlaw15_alive.calls k  t157 _ ?side1 A3.out).mono ?_); (case side1 => exact HE_.out.below (by repeat (first | (with_reducible first | exact HB.out | apply below_alloc | apply pw_below_drewN | apply below_drew1) | exact HB.out))); rintro e w5 ⟨rfl, hb⟩; have n0_ := Aside0.mk (below_step (by repeat (first | (with_reducible first | exact HB.out | apply below_alloc | apply pw_below_drewN | apply below_drew1) | exact HB.out)) hb); clear HB; have HB := n0_; clear n0_; (try clear hb); (try clear hb2); (try clear hk); (try clear hi)))
 repeat (go_quiet (first | (go_at_call 15; (with_reducible refine (quoinlaw15_alive.calls k  t157 _ ?side1 A3.out).mono ?_); (case side1 => exact HE_.out.below (by repeat (first | (with_reducible first | exact HB.out | apply below_alloc | apply pw_below_drewN | apply below_drew1) | exact HB.out))); rintro e w5 ⟨rfl, hb⟩; have n0_ := Aside0.mk (below_step (by repeat (first | (with_reducible first | exact HB.out | apply below_alloc | apply pw_below_drewN | apply below_drew1) | exact HB.out)) hb); clear HB; have HB := n0_; clear n0_; (try clear hb); (try clear hb2); (try clear hk); (try clear hi))); go_upto_region 2 with (first | (go_at_call 15; (with_reducible refine (quoinlaw15_alive.calls k  t157 _ ?side1 A3.out).mono ?_); (case side1 => exact HE_.out.below (by repeat (first | (with_reducible first | exact HB.out | apply below_alloc | apply pw_below_drewN | apply below_drew1) | exact HB.out))); rintro e w5 ⟨rfl, hb⟩; have n0_ := Aside0.mk (below_step (by repeat (first | (with_reducible first | exact HB.out | apply below_alloc | apply pw_below_drewN | apply below_drew1) | exact HB.out)) hb); clear HB; have HB := n0_; clear n0_; (try clear hb); (try clear hb2); (try clear hk); (try clear hi))))
 (try simp only [Act.put, List.setIfInBounds_toArray, List.set_cons_zero, List.set_cons_succ])
 go_cut [35] (fun v35 wc => ∃ (kq : Nat) (x35_3 : Bool), v35 = .bool x35_3 ∧ Aside0 (quoinlaw15_LexParts.j0 kq a0 a1 t157 x35_3 = some r) ∧ Aside0 (kq ≤ k) ∧ Aside0 (Below w.heap.size w wc))
 case first =>
  have H := HC4.out
  clear HC4
  by_cases c6 : (a0.size : Int) > 1000
  ·
   rw [if_pos c6] at H
   have c6b0 : decide (1000 < (a0.size : Int)) = true := decide_eq_true c6
   have c6b1 : decide (1000 < a0.size) = true := decide_eq_true (by omega)
   clear c6
   (first | rw [c6b0] | (simp only [i64_w, i32_w]; rw [c6b0]) | skip)
   have H' := Aside0.mk H
   clear H
   go_wp2
   repeat (go_quiet (fail); try go_wp2)
   go_meet
   case rel => exact ⟨_, (true), (by first | rfl | (simp; done) | (simp [*]; done) | (simp [show (⟨#[32, 9]⟩ : ByteArray).size = 2 from rfl, show (⟨#[32, 9, 35, 32, 97, 32, 114, 101, 109, 97, 114, 107, 58, 32, 34, 32, 44]⟩ : ByteArray).size = 17 from rfl]; done)), H', ⟨by first | omega | exact Nat.le_refl _⟩, ⟨by repeat (first | (with_reducible first | exact HB.out | apply below_alloc | apply pw_below_drewN | apply below_drew1) | exact HB.out)⟩⟩
  ·
   rw [if_neg c6] at H
   have c6b0 : decide (1000 < (a0.size : Int)) = false := decide_eq_false c6
   have c6b1 : decide (1000 < a0.size) = false := decide_eq_false (by omega)
   clear c6
   (first | rw [c6b0] | (simp only [i64_w, i32_w]; rw [c6b0]) | skip)
   by_cases c7 : (a1.size : Int) > 1000
   ·
    rw [if_pos c7] at H
    have c7b0 : decide (1000 < (a1.size : Int)) = true := decide_eq_true c7
    have c7b1 : decide (1000 < a1.size) = true := decide_eq_true (by omega)
    clear c7
    have H' := Aside0.mk H
    clear H
    go_wp2
    repeat (go_quiet (fail); try go_wp2)
    go_meet
    case rel => exact ⟨_, (true), (by first | rfl | (simp; done) | (simp [*]; done) | (simp [show (⟨#[32, 9]⟩ : ByteArray).size = 2 from rfl, show (⟨#[32, 9, 35, 32, 97, 32, 114, 101, 109, 97, 114, 107, 58, 32, 34, 32, 44]⟩ : ByteArray).size = 17 from rfl]; done)), H', ⟨by first | omega | exact Nat.le_refl _⟩, ⟨by repeat (first | (with_reducible first | exact HB.out | apply below_alloc | apply pw_below_drewN | apply below_drew1) | exact HB.out)⟩⟩
   ·
    rw [if_neg c7] at H
    have c7b0 : decide (1000 < (a1.size : Int)) = false := decide_eq_false c7
    have c7b1 : decide (1000 < a1.size) = false := decide_eq_false (by omega)
    clear c7
    by_cases c8 : (wrap64 ((wrap64 ((a0.size : Int) + (a1.size : Int))) + 1)) > 256
    ·
     rw [if_pos c8] at H
     have c8b0 : decide (256 < (wrap64 ((wrap64 ((a0.size : Int) + (a1.size : Int))) + 1))) = true := decide_eq_true c8
     clear c8
     have H' := Aside0.mk H
     clear H
     go_wp2
     repeat (go_quiet (fail); try go_wp2)
     go_meet
     case rel => exact ⟨_, (true), (by first | rfl | (simp; done) | (simp [*]; done) | (simp [show (⟨#[32, 9]⟩ : ByteArray).size = 2 from rfl, show (⟨#[32, 9, 35, 32, 97, 32, 114, 101, 109, 97, 114, 107, 58, 32, 34, 32, 44]⟩ : ByteArray).size = 17 from rfl]; done)), H', ⟨by first | omega | exact Nat.le_refl _⟩, ⟨by repeat (first | (with_reducible first | exact HB.out | apply below_alloc | apply pw_below_drewN | apply below_drew1) | exact HB.out)⟩⟩
    ·
     rw [if_neg c8] at H
     have c8b0 : decide (256 < (wrap64 ((wrap64 ((a0.size : Int) + (a1.size : Int))) + 1))) = false := decide_eq_false c8
     clear c8
     have H' := Aside0.mk H
     clear H
     go_wp2
     repeat (go_quiet (fail); try go_wp2)
     go_meet
     case rel => exact ⟨_, (!t157), (by first | rfl | (simp; done) | (simp [*]; done) | (simp [show (⟨#[32, 9]⟩ : ByteArray).size = 2 from rfl, show (⟨#[32, 9, 35, 32, 97, 32, 114, 101, 109, 97, 114, 107, 58, 32, 34, 32, 44]⟩ : ByteArray).size = 17 from rfl]; done)), H', ⟨by first | omega | exact Nat.le_refl _⟩, ⟨by repeat (first | (with_reducible first | exact HB.out | apply below_alloc | apply pw_below_drewN | apply below_drew1) | exact HB.out)⟩⟩
 case rest =>
  clear HC4
  try clear p2
  try clear c5
  try clear c6
  try clear c6b0
  try clear c6b1
  try clear p6
  try clear c7
  try clear c7b0
  try clear c7b1
  try clear c8
  try clear c8b0
  obtain ⟨kq, x35_3, rfl, HA, HJ3, HB⟩ := hcut
  cases kq with
  | zero => exact absurd HA.out (by simp [quoinlaw15_LexParts.j0])
  | succ kj3 =>
   have H := HA.out
   clear HA
   simp only [quoinlaw15_LexParts.j0] at H
   by_cases c9 : x35_3 = true
   ·
    subst c9
    have H1 : (some t157) = some r := by rw [if_pos rfl] at H; exact H
    clear H
    have H := H1
    clear H1
    obtain rfl := Option.some.inj H
    go_wp2
    repeat (go_quiet (fail); try go_wp2)
    go_ret
    exact ⟨by first | rfl | (simp [errW_none, errW_some] <;> rfl) | (simp [*, errW_none, errW_some] <;> rfl), by repeat (first | (with_reducible first | exact HB.out | apply below_alloc | apply pw_below_drewN | apply below_drew1) | exact HB.out)⟩
   ·
    replace c9 := Bool.eq_false_iff.mpr c9
    subst c9
    have H1 : (quoinlaw15_LexParts.l0 kj3 a0 a1 t157 0) = some r := by rw [if_neg (show ¬ (false = true) by decide)] at H; exact H
    clear H
    have H := H1
    clear H1
    have H' := Aside0.mk H
    clear H
    go_wp2
    repeat (go_quiet (fail); try go_wp2)
    go_loopg [6] kj3 (fun kq v6 w' => ∃ (x6_2 : Int), v6 = .int .i64 x6_2 ∧ Aside0 (quoinlaw15_LexParts.l0 kq a0 a1 t157 x6_2 = some r) ∧ Aside0 (kq ≤ kj3) ∧ Aside0 (Below w.heap.size w w'))
    case atStart => exact ⟨(0), (by first | rfl | (simp; done) | (simp [*]; done) | (simp [show (⟨#[32, 9]⟩ : ByteArray).size = 2 from rfl, show (⟨#[32, 9, 35, 32, 97, 32, 114, 101, 109, 97, 114, 107, 58, 32, 34, 32, 44]⟩ : ByteArray).size = 17 from rfl]; done)), H', ⟨Nat.le_refl _⟩, ⟨by repeat (first | (with_reducible first | exact HB.out | apply below_alloc | apply pw_below_drewN | apply below_drew1) | exact HB.out)⟩⟩
    case round =>
     clear H'
     try clear p2
     try clear c5
     try clear c6
     try clear c6b0
     try clear c6b1
     try clear p6
     try clear c7
     try clear c7b0
     try clear c7b1
     try clear c8
     try clear c8b0
     try clear c9
     try clear p2
     try clear p6
     obtain ⟨x6_2, rfl, HA, HK2, HB⟩ := hrel
     cases gk with
     | zero => exact absurd HA.out (by simp [quoinlaw15_LexParts.l0])
     | succ k2 =>
      have H := HA.out
      clear HA
      simp only [quoinlaw15_LexParts.l0] at H
      by_cases c10 : x6_2 < (a0.size : Int)
      ·
       rw [if_pos c10] at H
       have c10b0 : decide (x6_2 < (a0.size : Int)) = true := decide_eq_true c10
       clear c10
       by_cases c11 : 0 ≤ x6_2
       ·
        rw [if_pos c11] at H
        have c11b0 : decide (0 ≤ x6_2) = true := decide_eq_true c11
        clear c11
        by_cases c13 : (bt a0 x6_2) = 35
        ·
         rw [if_pos c13] at H
         have c13b0 : ((bt a0 x6_2) == 35) = true := beq_iff_eq.mpr c13
         have c13b1 : ((bt a0 x6_2) != 35) = false := bne_eq_false_iff_eq.mpr c13
         clear c13
         obtain rfl := Option.some.inj H
         have p12 : 0 ≤ (x6_2 : Int) := of_decide_eq_true (by first | (with_reducible assumption) | assumption)
         have q12 : x6_2 < (a0.size : Int) := of_decide_eq_true (by first | (with_reducible assumption) | assumption)
         have hx12 := bt_at a0 x6_2
         replace p12 := eq_true p12
         replace q12 := eq_true q12
         go_wp2
         repeat (go_quiet (fail); try go_wp2)
         go_ret
         exact ⟨by first | rfl | (simp [errW_none, errW_some] <;> rfl) | (simp [*, errW_none, errW_some] <;> rfl), by repeat (first | (with_reducible first | exact HB.out | apply below_alloc | apply pw_below_drewN | apply below_drew1) | exact HB.out)⟩
        ·
         rw [if_neg c13] at H
         have c13b0 : ((bt a0 x6_2) == 35) = false := beq_eq_false_iff_ne.mpr c13
         have c13b1 : ((bt a0 x6_2) != 35) = true := bne_iff_ne.mpr c13
         have H' := Aside0.mk H
         clear H
         have p12 : 0 ≤ (x6_2 : Int) := of_decide_eq_true (by first | (with_reducible assumption) | assumption)
         have q12 : x6_2 < (a0.size : Int) := of_decide_eq_true (by first | (with_reducible assumption) | assumption)
         have hx12 := bt_at a0 x6_2
         replace p12 := eq_true p12
         replace q12 := eq_true q12
         go_wp2
         repeat (go_quiet (fail); try go_wp2)
         go_roundg k2
         case measure => have := HJ3.out; have := HK2.out; omega
         case rel => exact ⟨(wrap64 (x6_2 + 1)), (by first | rfl | (simp; done) | (simp [*]; done) | (simp [show (⟨#[32, 9]⟩ : ByteArray).size = 2 from rfl, show (⟨#[32, 9, 35, 32, 97, 32, 114, 101, 109, 97, 114, 107, 58, 32, 34, 32, 44]⟩ : ByteArray).size = 17 from rfl]; done)), H', ⟨by have := HJ3.out; have := HK2.out; omega⟩, ⟨by repeat (first | (with_reducible first | exact HB.out | apply below_alloc | apply pw_below_drewN | apply below_drew1) | exact HB.out)⟩⟩
       ·
        rw [if_neg c11] at H
        exact absurd H (by simp)
      ·
       rw [if_neg c10] at H
       have c10b0 : decide (x6_2 < (a0.size : Int)) = false := decide_eq_false c10
       clear c10
       replace H := Option.bind_eq_some_iff.mp H
       obtain ⟨⟨t158, t159⟩, A140, H⟩ := H
       replace H : ((lex_Tokens.f a1).bind fun bt162 => (if a0.size + 1 ≤ 9223372036854775807 then (if (a0 ++ (⟨#[32]⟩ : ByteArray)).size + a1.size ≤ 9223372036854775807 then ((lex_Tokens.f ((a0 ++ (⟨#[32]⟩ : ByteArray)) ++ a1)).bind fun bt166 => (if t159 = 0 then (quoinlaw15_LexParts.j2 k2 t157 t158 bt162.1 bt166.1 bt166.2 (bt162.2 != 0)) else (quoinlaw15_LexParts.j2 k2 t157 t158 bt162.1 bt166.1 bt166.2 true))) else (none)) else (none))) = some r := H
       have A14 := Aside0.mk A140
       clear A140
       replace H := Option.bind_eq_some_iff.mp H
       obtain ⟨⟨t162, t163⟩, A150, H⟩ := H
       replace H : (if a0.size + 1 ≤ 9223372036854775807 then (if (a0 ++ (⟨#[32]⟩ : ByteArray)).size + a1.size ≤ 9223372036854775807 then ((lex_Tokens.f ((a0 ++ (⟨#[32]⟩ : ByteArray)) ++ a1)).bind fun bt166 => (if t159 = 0 then (quoinlaw15_LexParts.j2 k2 t157 t158 t162 bt166.1 bt166.2 (t163 != 0)) else (quoinlaw15_LexParts.j2 k2 t157 t158 t162 bt166.1 bt166.2 true))) else (none)) else (none)) = some r := H
       have A15 := Aside0.mk A150
       clear A150
       by_cases c16 : a0.size + 1 ≤ 9223372036854775807
       ·
        rw [if_pos c16] at H
        have c16b0 := eq_true c16
        have c16b1 : decide (a0.size + 1 ≤ 9223372036854775807) = true := decide_eq_true c16
        try have c16b2 : (9223372036854775807 < a0.size + 1) = False := eq_false (Nat.not_lt.2 c16)
        by_cases c17 : (a0 ++ (⟨#[32]⟩ : ByteArray)).size + a1.size ≤ 9223372036854775807
        ·
         rw [if_pos c17] at H
         have c17b0 := eq_true c17
         have c17b1 : decide ((a0 ++ (⟨#[32]⟩ : ByteArray)).size + a1.size ≤ 9223372036854775807) = true := decide_eq_true c17
         try have c17b2 : (9223372036854775807 < (a0 ++ (⟨#[32]⟩ : ByteArray)).size + a1.size) = False := eq_false (Nat.not_lt.2 c17)
         replace H := Option.bind_eq_some_iff.mp H
         obtain ⟨⟨t166, t167⟩, A180, H⟩ := H
         replace H : (if t159 = 0 then (quoinlaw15_LexParts.j2 k2 t157 t158 t162 t166 t167 (t163 != 0)) else (quoinlaw15_LexParts.j2 k2 t157 t158 t162 t166 t167 true)) = some r := H
         have A18 := Aside0.mk A180
         clear A180
         have HC19 := Aside0.mk H
         clear H
         go_upto_region 12 with (first | (go_at_call 16; (with_reducible refine (lex_Tokens.calls a0 t158 t159 _ ?side1 A14.out).mono ?_); (case side1 => exact HE_.out.below (by repeat (first | (with_reducible first | exact HB.out | apply below_alloc | apply pw_below_drewN | apply below_drew1) | exact HB.out))); rintro e w20 ⟨v160, rfl, ho0, hb⟩; have n0_ := Aside0.mk (Kd.R_lower ho0 (below_size (by repeat (first | (with_reducible first | exact HB.out | apply below_alloc | apply pw_below_drewN | apply below_drew1) | exact HB.out)))); have n1_ := Aside0.mk (below_step (by repeat (first | (with_reducible first | exact HB.out | apply below_alloc | apply pw_below_drewN | apply below_drew1) | exact HB.out)) hb); clear HB; have HO161 := n0_; have HB := n1_; clear n0_ n1_; (try clear hb); (try clear hb2); (try clear hk); (try clear hi); (try clear ho0)) | (go_at_call 16; (with_reducible refine (lex_Tokens.calls a1 t162 t163 _ ?side1 A15.out).mono ?_); (case side1 => exact HE_.out.below (by repeat (first | (with_reducible first | exact HB.out | apply below_alloc | apply pw_below_drewN | apply below_drew1) | exact HB.out))); rintro e w21 ⟨v164, rfl, ho0, hb⟩; have n0_ := Aside0.mk (Kd.R_elder' (by (with_reducible repeat (first | apply Kd.R_alloc | apply Kd.R_drewN | apply Kd.R_drew)); exact HO161.out) (Kd.R_base ho0) hb); have n1_ := Aside0.mk (Kd.R_lower (Kd.R_new' ho0 (Kd.R_lt (by (with_reducible repeat (first | apply Kd.R_alloc | apply Kd.R_drewN | apply Kd.R_drew)); exact HO161.out))) (below_size (by repeat (first | (with_reducible first | exact HB.out | apply below_alloc | apply pw_below_drewN | apply below_drew1) | exact HB.out)))); have n2_ := Aside0.mk (below_step (by repeat (first | (with_reducible first | exact HB.out | apply below_alloc | apply pw_below_drewN | apply below_drew1) | exact HB.out)) hb); clear HO161; clear HB; have HO161 := n0_; have HO165 := n1_; have HB := n2_; clear n0_ n1_ n2_; (try clear hb); (try clear hb2); (try clear hk); (try clear hi); (try clear ho0)) | (go_at_call 16; (with_reducible refine (lex_Tokens.calls ((a0 ++ (⟨#[32]⟩ : ByteArray)) ++ a1) t166 t167 _ ?side1 A18.out).mono ?_); (case side1 => exact HE_.out.below (by repeat (first | (with_reducible first | exact HB.out | apply below_alloc | apply pw_below_drewN | apply below_drew1) | exact HB.out))); rintro e w22 ⟨v168, rfl, ho0, hb⟩; have n0_ := Aside0.mk (Kd.R_elder' (by (with_reducible repeat (first | apply Kd.R_alloc | apply Kd.R_drewN | apply Kd.R_drew)); exact HO161.out) (Kd.R_base ho0) hb); have n1_ := Aside0.mk (Kd.R_elder' (by (with_reducible repeat (first | apply Kd.R_alloc | apply Kd.R_drewN | apply Kd.R_drew)); exact HO165.out) (Kd.R_base ho0) hb); have n2_ := Aside0.mk (Kd.R_lower (Kd.R_new' (Kd.R_new' ho0 (Kd.R_lt (by (with_reducible repeat (first | apply Kd.R_alloc | apply Kd.R_drewN | apply Kd.R_drew)); exact HO161.out))) (Kd.R_lt (by (with_reducible repeat (first | apply Kd.R_alloc | apply Kd.R_drewN | apply Kd.R_drew)); exact HO165.out))) (below_size (by repeat (first | (with_reducible first | exact HB.out | apply below_alloc | apply pw_below_drewN | apply below_drew1) | exact HB.out)))); have n3_ := Aside0.mk (below_step (by repeat (first | (with_reducible first | exact HB.out | apply below_alloc | apply pw_below_drewN | apply below_drew1) | exact HB.out)) hb); clear HO161; clear HO165; clear HB; have HO161 := n0_; have HO165 := n1_; have HO169 := n2_; have HB := n3_; clear n0_ n1_ n2_ n3_; (try clear hb); (try clear hb2); (try clear hk); (try clear hi); (try clear ho0)))
         repeat (go_quiet (first | (go_at_call 16; (with_reducible refine (lex_Tokens.calls a0 t158 t159 _ ?side1 A14.out).mono ?_); (case side1 => exact HE_.out.below (by repeat (first | (with_reducible first | exact HB.out | apply below_alloc | apply pw_below_drewN | apply below_drew1) | exact HB.out))); rintro e w20 ⟨v160, rfl, ho0, hb⟩; have n0_ := Aside0.mk (Kd.R_lower ho0 (below_size (by repeat (first | (with_reducible first | exact HB.out | apply below_alloc | apply pw_below_drewN | apply below_drew1) | exact HB.out)))); have n1_ := Aside0.mk (below_step (by repeat (first | (with_reducible first | exact HB.out | apply below_alloc | apply pw_below_drewN | apply below_drew1) | exact HB.out)) hb); clear HB; have HO161 := n0_; have HB := n1_; clear n0_ n1_; (try clear hb); (try clear hb2); (try clear hk); (try clear hi); (try clear ho0)) | (go_at_call 16; (with_reducible refine (lex_Tokens.calls a1 t162 t163 _ ?side1 A15.out).mono ?_); (case side1 => exact HE_.out.below (by repeat (first | (with_reducible first | exact HB.out | apply below_alloc | apply pw_below_drewN | apply below_drew1) | exact HB.out))); rintro e w21 ⟨v164, rfl, ho0, hb⟩; have n0_ := Aside0.mk (Kd.R_elder' (by (with_reducible repeat (first | apply Kd.R_alloc | apply Kd.R_drewN | apply Kd.R_drew)); exact HO161.out) (Kd.R_base ho0) hb); have n1_ := Aside0.mk (Kd.R_lower (Kd.R_new' ho0 (Kd.R_lt (by (with_reducible repeat (first | apply Kd.R_alloc | apply Kd.R_drewN | apply Kd.R_drew)); exact HO161.out))) (below_size (by repeat (first | (with_reducible first | exact HB.out | apply below_alloc | apply pw_below_drewN | apply below_drew1) | exact HB.out)))); have n2_ := Aside0.mk (below_step (by repeat (first | (with_reducible first | exact HB.out | apply below_alloc | apply pw_below_drewN | apply below_drew1) | exact HB.out)) hb); clear HO161; clear HB; have HO161 := n0_; have HO165 := n1_; have HB := n2_; clear n0_ n1_ n2_; (try clear hb); (try clear hb2); (try clear hk); (try clear hi); (try clear ho0)) | (go_at_call 16; (with_reducible refine (lex_Tokens.calls ((a0 ++ (⟨#[32]⟩ : ByteArray)) ++ a1) t166 t167 _ ?side1 A18.out).mono ?_); (case side1 => exact HE_.out.below (by repeat (first | (with_reducible first | exact HB.out | apply below_alloc | apply pw_below_drewN | apply below_drew1) | exact HB.out))); rintro e w22 ⟨v168, rfl, ho0, hb⟩; have n0_ := Aside0.mk (Kd.R_elder' (by (with_reducible repeat (first | apply Kd.R_alloc | apply Kd.R_drewN | apply Kd.R_drew)); exact HO161.out) (Kd.R_base ho0) hb); have n1_ := Aside0.mk (Kd.R_elder' (by (with_reducible repeat (first | apply Kd.R_alloc | apply Kd.R_drewN | apply Kd.R_drew)); exact HO165.out) (Kd.R_base ho0) hb); have n2_ := Aside0.mk (Kd.R_lower (Kd.R_new' (Kd.R_new' ho0 (Kd.R_lt (by (with_reducible repeat (first | apply Kd.R_alloc | apply Kd.R_drewN | apply Kd.R_drew)); exact HO161.out))) (Kd.R_lt (by (with_reducible repeat (first | apply Kd.R_alloc | apply Kd.R_drewN | apply Kd.R_drew)); exact HO165.out))) (below_size (by repeat (first | (with_reducible first | exact HB.out | apply below_alloc | apply pw_below_drewN | apply below_drew1) | exact HB.out)))); have n3_ := Aside0.mk (below_step (by repeat (first | (with_reducible first | exact HB.out | apply below_alloc | apply pw_below_drewN | apply below_drew1) | exact HB.out)) hb); clear HO161; clear HO165; clear HB; have HO161 := n0_; have HO165 := n1_; have HO169 := n2_; have HB := n3_; clear n0_ n1_ n2_ n3_; (try clear hb); (try clear hb2); (try clear hk); (try clear hi); (try clear ho0))); go_upto_region 12 with (first | (go_at_call 16; (with_reducible refine (lex_Tokens.calls a0 t158 t159 _ ?side1 A14.out).mono ?_); (case side1 => exact HE_.out.below (by repeat (first | (with_reducible first | exact HB.out | apply below_alloc | apply pw_below_drewN | apply below_drew1) | exact HB.out))); rintro e w20 ⟨v160, rfl, ho0, hb⟩; have n0_ := Aside0.mk (Kd.R_lower ho0 (below_size (by repeat (first | (with_reducible first | exact HB.out | apply below_alloc | apply pw_below_drewN | apply below_drew1) | exact HB.out)))); have n1_ := Aside0.mk (below_step (by repeat (first | (with_reducible first | exact HB.out | apply below_alloc | apply pw_below_drewN | apply below_drew1) | exact HB.out)) hb); clear HB; have HO161 := n0_; have HB := n1_; clear n0_ n1_; (try clear hb); (try clear hb2); (try clear hk); (try clear hi); (try clear ho0)) | (go_at_call 16; (with_reducible refine (lex_Tokens.calls a1 t162 t163 _ ?side1 A15.out).mono ?_); (case side1 => exact HE_.out.below (by repeat (first | (with_reducible first | exact HB.out | apply below_alloc | apply pw_below_drewN | apply below_drew1) | exact HB.out))); rintro e w21 ⟨v164, rfl, ho0, hb⟩; have n0_ := Aside0.mk (Kd.R_elder' (by (with_reducible repeat (first | apply Kd.R_alloc | apply Kd.R_drewN | apply Kd.R_drew)); exact HO161.out) (Kd.R_base ho0) hb); have n1_ := Aside0.mk (Kd.R_lower (Kd.R_new' ho0 (Kd.R_lt (by (with_reducible repeat (first | apply Kd.R_alloc | apply Kd.R_drewN | apply Kd.R_drew)); exact HO161.out))) (below_size (by repeat (first | (with_reducible first | exact HB.out | apply below_alloc | apply pw_below_drewN | apply below_drew1) | exact HB.out)))); have n2_ := Aside0.mk (below_step (by repeat (first | (with_reducible first | exact HB.out | apply below_alloc | apply pw_below_drewN | apply below_drew1) | exact HB.out)) hb); clear HO161; clear HB; have HO161 := n0_; have HO165 := n1_; have HB := n2_; clear n0_ n1_ n2_; (try clear hb); (try clear hb2); (try clear hk); (try clear hi); (try clear ho0)) | (go_at_call 16; (with_reducible refine (lex_Tokens.calls ((a0 ++ (⟨#[32]⟩ : ByteArray)) ++ a1) t166 t167 _ ?side1 A18.out).mono ?_); (case side1 => exact HE_.out.below (by repeat (first | (with_reducible first | exact HB.out | apply below_alloc | apply pw_below_drewN | apply below_drew1) | exact HB.out))); rintro e w22 ⟨v168, rfl, ho0, hb⟩; have n0_ := Aside0.mk (Kd.R_elder' (by (with_reducible repeat (first | apply Kd.R_alloc | apply Kd.R_drewN | apply Kd.R_drew)); exact HO161.out) (Kd.R_base ho0) hb); have n1_ := Aside0.mk (Kd.R_elder' (by (with_reducible repeat (first | apply Kd.R_alloc | apply Kd.R_drewN | apply Kd.R_drew)); exact HO165.out) (Kd.R_base ho0) hb); have n2_ := Aside0.mk (Kd.R_lower (Kd.R_new' (Kd.R_new' ho0 (Kd.R_lt (by (with_reducible repeat (first | apply Kd.R_alloc | apply Kd.R_drewN | apply Kd.R_drew)); exact HO161.out))) (Kd.R_lt (by (with_reducible repeat (first | apply Kd.R_alloc | apply Kd.R_drewN | apply Kd.R_drew)); exact HO165.out))) (below_size (by repeat (first | (with_reducible first | exact HB.out | apply below_alloc | apply pw_below_drewN | apply below_drew1) | exact HB.out)))); have n3_ := Aside0.mk (below_step (by repeat (first | (with_reducible first | exact HB.out | apply below_alloc | apply pw_below_drewN | apply below_drew1) | exact HB.out)) hb); clear HO161; clear HO165; clear HB; have HO161 := n0_; have HO165 := n1_; have HO169 := n2_; have HB := n3_; clear n0_ n1_ n2_ n3_; (try clear hb); (try clear hb2); (try clear hk); (try clear hi); (try clear ho0))))
         (try simp only [Act.put, List.setIfInBounds_toArray, List.set_cons_zero, List.set_cons_succ])
         go_cut [71] (fun v71 wc => ∃ (kq : Nat) (x71_18 : Bool), v71 = .bool x71_18 ∧ Aside0 (quoinlaw15_LexParts.j2 kq t157 t158 t162 t166 t167 x71_18 = some r) ∧ Aside0 (kq ≤ k2) ∧ Aside0 (Kd.R k23 23 wc w.heap.size (fun k_ => some k_ ≠ (v164 : Value).ownBlock ∧ some k_ ≠ (v168 : Value).ownBlock) v160 t158) ∧ Aside0 (Kd.R k23 23 wc w.heap.size (fun k_ => some k_ ≠ (v160 : Value).ownBlock ∧ some k_ ≠ (v168 : Value).ownBlock) v164 t162) ∧ Aside0 (Kd.R k23 23 wc w.heap.size (fun k_ => some k_ ≠ (v160 : Value).ownBlock ∧ some k_ ≠ (v164 : Value).ownBlock) v168 t166) ∧ Aside0 (Below w.heap.size w wc))
         case first =>
          have H := HC19.out
          clear HC19
          by_cases c23 : t159 = 0
          ·
           rw [if_pos c23] at H
           have c23b0 : (t159 == 0) = true := beq_iff_eq.mpr c23
           have c23b1 : (t159 != 0) = false := bne_eq_false_iff_eq.mpr c23
           clear c23
           (first | rw [c23b0] | (simp only [i64_w, i32_w]; rw [c23b0]) | skip)
           have H' := Aside0.mk H
           clear H
           go_wp2
           repeat (go_quiet (fail); try go_wp2)
           go_meet
           case rel => exact ⟨_, ((t163 != 0)), (by first | rfl | (simp; done) | (simp [*]; done) | (simp [show (⟨#[32, 9]⟩ : ByteArray).size = 2 from rfl, show (⟨#[32, 9, 35, 32, 97, 32, 114, 101, 109, 97, 114, 107, 58, 32, 34, 32, 44]⟩ : ByteArray).size = 17 from rfl]; done)), H', ⟨by have := HJ3.out; have := HK2.out; first | omega | exact Nat.le_refl _⟩, ⟨by (with_reducible repeat (first | apply Kd.R_alloc | apply Kd.R_drewN | apply Kd.R_drew)); exact Kd.R_mono HO161.out (fun _ hk => ⟨hk.1.2, hk.2⟩)⟩, ⟨by (with_reducible repeat (first | apply Kd.R_alloc | apply Kd.R_drewN | apply Kd.R_drew)); exact Kd.R_mono HO165.out (fun _ hk => ⟨hk.1.2, hk.2⟩)⟩, ⟨by (with_reducible repeat (first | apply Kd.R_alloc | apply Kd.R_drewN | apply Kd.R_drew)); exact Kd.R_mono HO169.out (fun _ hk => ⟨hk.1.2, hk.2⟩)⟩, ⟨by repeat (first | (with_reducible first | exact HB.out | apply below_alloc | apply pw_below_drewN | apply below_drew1) | exact HB.out)⟩⟩
          ·
           rw [if_neg c23] at H
           have c23b0 : (t159 == 0) = false := beq_eq_false_iff_ne.mpr c23
           have c23b1 : (t159 != 0) = true := bne_iff_ne.mpr c23
           (first | rw [c23b0] | (simp only [i64_w, i32_w]; rw [c23b0]) | skip)
           have H' := Aside0.mk H
           clear H
           go_wp2
           repeat (go_quiet (fail); try go_wp2)
           go_meet
           case rel => exact ⟨_, (true), (by first | rfl | (simp; done) | (simp [*]; done) | (simp [show (⟨#[32, 9]⟩ : ByteArray).size = 2 from rfl, show (⟨#[32, 9, 35, 32, 97, 32, 114, 101, 109, 97, 114, 107, 58, 32, 34, 32, 44]⟩ : ByteArray).size = 17 from rfl]; done)), H', ⟨by have := HJ3.out; have := HK2.out; first | omega | exact Nat.le_refl _⟩, ⟨by (with_reducible repeat (first | apply Kd.R_alloc | apply Kd.R_drewN | apply Kd.R_drew)); exact Kd.R_mono HO161.out (fun _ hk => ⟨hk.1.2, hk.2⟩)⟩, ⟨by (with_reducible repeat (first | apply Kd.R_alloc | apply Kd.R_drewN | apply Kd.R_drew)); exact Kd.R_mono HO165.out (fun _ hk => ⟨hk.1.2, hk.2⟩)⟩, ⟨by (with_reducible repeat (first | apply Kd.R_alloc | apply Kd.R_drewN | apply Kd.R_drew)); exact Kd.R_mono HO169.out (fun _ hk => ⟨hk.1.2, hk.2⟩)⟩, ⟨by repeat (first | (with_reducible first | exact HB.out | apply below_alloc | apply pw_below_drewN | apply below_drew1) | exact HB.out)⟩⟩
         case rest =>
          clear HC19
          try clear c1
          try clear p1
          try clear q1
          try clear hx1
          try clear c2
          try clear p2
          try clear c5
          try clear c6
          try clear c6b0
          try clear c6b1
          try clear p6
          try clear c7
          try clear c7b0
          try clear c7b1
          try clear c8
          try clear c8b0
          try clear c9
          try clear c10
          try clear c10b0
          try clear c11
          try clear c11b0
          try clear p12
          try clear q12
          try clear hx12
          try clear c13
          try clear c13b0
          try clear c13b1
          try clear c16
          try clear c16b0
          try clear c16b1
          try clear c16b2
          try clear c17
          try clear c17b0
          try clear c17b1
          try clear c17b2
          try clear c23
          try clear c23b0
          try clear c23b1
          try clear p12
          try clear p2
          try clear p6
          try clear q12
          obtain ⟨kq, x71_18, rfl, HA, HJ18, HO_7, HO_9, HO_11, HB⟩ := hcut
          cases kq with
          | zero => exact absurd HA.out (by simp [quoinlaw15_LexParts.j2])
          | succ kj18 =>
           have H := HA.out
           clear HA
           simp only [quoinlaw15_LexParts.j2] at H
           by_cases c24 : x71_18 = true
           ·
            subst c24
            have H1 : (some t157) = some r := by rw [if_pos rfl] at H; exact H
            clear H
            have H := H1
            clear H1
            obtain rfl := Option.some.inj H
            go_wp2
            repeat (go_quiet (fail); try go_wp2)
            go_ret
            exact ⟨by first | rfl | (simp [errW_none, errW_some] <;> rfl) | (simp [*, errW_none, errW_some] <;> rfl), by repeat (first | (with_reducible first | exact HB.out | apply below_alloc | apply pw_below_drewN | apply below_drew1) | exact HB.out)⟩
           ·
            replace c24 := Bool.eq_false_iff.mpr c24
            subst c24
            have H1 : (if t167 = 0 then (quoinlaw15_LexParts.j3 kj18 t158 t162 t166 t167 ((t166.length : Int) != (wrap64 ((t158.length : Int) + (t162.length : Int))))) else (quoinlaw15_LexParts.j3 kj18 t158 t162 t166 t167 true)) = some r := by rw [if_neg (show ¬ (false = true) by decide)] at H; exact H
            clear H
            have H := H1
            clear H1
            have HC25 := Aside0.mk H
            clear H
            go_upto_region 14 with (fail)
            repeat (go_quiet (fail); go_upto_region 14 with (fail))
            go_cut [84] (fun v84 wc => ∃ (kq : Nat) (x84_24 : Bool), v84 = .bool x84_24 ∧ Aside0 (quoinlaw15_LexParts.j3 kq t158 t162 t166 t167 x84_24 = some r) ∧ Aside0 (kq ≤ kj18) ∧ Aside0 (Kd.R k23 23 wc w.heap.size (fun k_ => some k_ ≠ (v164 : Value).ownBlock ∧ some k_ ≠ (v168 : Value).ownBlock) v160 t158) ∧ Aside0 (Kd.R k23 23 wc w.heap.size (fun k_ => some k_ ≠ (v160 : Value).ownBlock ∧ some k_ ≠ (v168 : Value).ownBlock) v164 t162) ∧ Aside0 (Kd.R k23 23 wc w.heap.size (fun k_ => some k_ ≠ (v160 : Value).ownBlock ∧ some k_ ≠ (v164 : Value).ownBlock) v168 t166) ∧ Aside0 (Below w.heap.size w wc))
            case first =>
             have H := HC25.out
             clear HC25
             by_cases c26 : t167 = 0
             ·
              rw [if_pos c26] at H
              have c26b0 : (t167 == 0) = true := beq_iff_eq.mpr c26
              have c26b1 : (t167 != 0) = false := bne_eq_false_iff_eq.mpr c26
              clear c26
              (first | rw [c26b0] | (simp only [i64_w, i32_w]; rw [c26b0]) | skip)
              have H' := Aside0.mk H
              clear H
              obtain ⟨Ao27, co27, eo27⟩ := Kd.R_slice HO_11.out
              subst eo27
              obtain ⟨Ao28, co28, eo28⟩ := Kd.R_slice HO_7.out
              subst eo28
              obtain ⟨Ao29, co29, eo29⟩ := Kd.R_slice HO_9.out
              subst eo29
              go_wp2
              repeat (go_quiet (fail); try go_wp2)
              go_meet
              case rel => exact ⟨_, (((t166.length : Int) != (wrap64 ((t158.length : Int) + (t162.length : Int))))), (by first | rfl | (simp; done) | (simp [*]; done) | (simp [show (⟨#[32, 9]⟩ : ByteArray).size = 2 from rfl, show (⟨#[32, 9, 35, 32, 97, 32, 114, 101, 109, 97, 114, 107, 58, 32, 34, 32, 44]⟩ : ByteArray).size = 17 from rfl]; done)), H', ⟨by have := HJ3.out; have := HK2.out; have := HJ18.out; first | omega | exact Nat.le_refl _⟩, ⟨by (with_reducible repeat (first | apply Kd.R_alloc | apply Kd.R_drewN | apply Kd.R_drew)); exact HO_7.out⟩, ⟨by (with_reducible repeat (first | apply Kd.R_alloc | apply Kd.R_drewN | apply Kd.R_drew)); exact HO_9.out⟩, ⟨by (with_reducible repeat (first | apply Kd.R_alloc | apply Kd.R_drewN | apply Kd.R_drew)); exact HO_11.out⟩, ⟨by repeat (first | (with_reducible first | exact HB.out | apply below_alloc | apply pw_below_drewN | apply below_drew1) | exact HB.out)⟩⟩
             ·
              rw [if_neg c26] at H
              have c26b0 : (t167 == 0) = false := beq_eq_false_iff_ne.mpr c26
              have c26b1 : (t167 != 0) = true := bne_iff_ne.mpr c26
              (first | rw [c26b0] | (simp only [i64_w, i32_w]; rw [c26b0]) | skip)
              have H' := Aside0.mk H
              clear H
              go_wp2
              repeat (go_quiet (fail); try go_wp2)
              go_meet
              case rel => exact ⟨_, (true), (by first | rfl | (simp; done) | (simp [*]; done) | (simp [show (⟨#[32, 9]⟩ : ByteArray).size = 2 from rfl, show (⟨#[32, 9, 35, 32, 97, 32, 114, 101, 109, 97, 114, 107, 58, 32, 34, 32, 44]⟩ : ByteArray).size = 17 from rfl]; done)), H', ⟨by have := HJ3.out; have := HK2.out; have := HJ18.out; first | omega | exact Nat.le_refl _⟩, ⟨by (with_reducible repeat (first | apply Kd.R_alloc | apply Kd.R_drewN | apply Kd.R_drew)); exact HO_7.out⟩, ⟨by (with_reducible repeat (first | apply Kd.R_alloc | apply Kd.R_drewN | apply Kd.R_drew)); exact HO_9.out⟩, ⟨by (with_reducible repeat (first | apply Kd.R_alloc | apply Kd.R_drewN | apply Kd.R_drew)); exact HO_11.out⟩, ⟨by repeat (first | (with_reducible first | exact HB.out | apply below_alloc | apply pw_below_drewN | apply below_drew1) | exact HB.out)⟩⟩
            case rest =>
             clear HC25
             try clear c1
             try clear p1
             try clear q1
             try clear hx1
             try clear c2
             try clear p2
             try clear c5
             try clear c6
             try clear c6b0
             try clear c6b1
             try clear p6
             try clear c7
             try clear c7b0
             try clear c7b1
             try clear c8
             try clear c8b0
             try clear c9
             try clear c10
             try clear c10b0
             try clear c11
             try clear c11b0
             try clear p12
             try clear q12
             try clear hx12
             try clear c13
             try clear c13b0
             try clear c13b1
             try clear c16
             try clear c16b0
             try clear c16b1
             try clear c16b2
             try clear c17
             try clear c17b0
             try clear c17b1
             try clear c17b2
             try clear c23
             try clear c23b0
             try clear c23b1
             try clear c24
             try clear c26
             try clear c26b0
             try clear c26b1
             try clear p1
             try clear p12
             try clear p2
             try clear p6
             try clear q1
             try clear q12
             obtain ⟨kq, x84_24, rfl, HA, HJ24, HO_7, HO_9, HO_11, HB⟩ := hcut
             cases kq with
             | zero => exact absurd HA.out (by simp [quoinlaw15_LexParts.j3])
             | succ kj24 =>
              have H := HA.out
              clear HA
              simp only [quoinlaw15_LexParts.j3] at H
              by_cases c30 : x84_24 = true
              ·
               subst c30
               have H1 : (some (t167 == 4)) = some r := by rw [if_pos rfl] at H; exact H
               clear H
               have H := H1
               clear H1
               obtain rfl := Option.some.inj H
               go_wp2
               repeat (go_quiet (fail); try go_wp2)
               go_ret
               exact ⟨by first | rfl | (simp [errW_none, errW_some] <;> rfl) | (simp [*, errW_none, errW_some] <;> rfl), by repeat (first | (with_reducible first | exact HB.out | apply below_alloc | apply pw_below_drewN | apply below_drew1) | exact HB.out)⟩
              ·
               replace c30 := Bool.eq_false_iff.mpr c30
               subst c30
               have H1 : (quoinlaw15_LexParts.l1 kj24 t158 t162 t166 0) = some r := by rw [if_neg (show ¬ (false = true) by decide)] at H; exact H
               clear H
               have H := H1
               clear H1
               have H' := Aside0.mk H
               clear H
               go_wp2
               repeat (go_quiet (fail); try go_wp2)
               go_loopg [13] kj24 (fun kq v13 w' => ∃ (x13_5 : Int), v13 = .int .i64 x13_5 ∧ Aside0 (quoinlaw15_LexParts.l1 kq t158 t162 t166 x13_5 = some r) ∧ Aside0 (kq ≤ kj24) ∧ Aside0 (Kd.R k23 23 w' w.heap.size (fun k_ => some k_ ≠ (v164 : Value).ownBlock ∧ some k_ ≠ (v168 : Value).ownBlock) v160 t158) ∧ Aside0 (Kd.R k23 23 w' w.heap.size (fun k_ => some k_ ≠ (v160 : Value).ownBlock ∧ some k_ ≠ (v168 : Value).ownBlock) v164 t162) ∧ Aside0 (Kd.R k23 23 w' w.heap.size (fun k_ => some k_ ≠ (v160 : Value).ownBlock ∧ some k_ ≠ (v164 : Value).ownBlock) v168 t166) ∧ Aside0 (Below w.heap.size w w'))
               case atStart => exact ⟨(0), (by first | rfl | (simp; done) | (simp [*]; done) | (simp [show (⟨#[32, 9]⟩ : ByteArray).size = 2 from rfl, show (⟨#[32, 9, 35, 32, 97, 32, 114, 101, 109, 97, 114, 107, 58, 32, 34, 32, 44]⟩ : ByteArray).size = 17 from rfl]; done)), H', ⟨Nat.le_refl _⟩, ⟨by (with_reducible repeat (first | apply Kd.R_alloc | apply Kd.R_drewN | apply Kd.R_drew)); exact HO_7.out⟩, ⟨by (with_reducible repeat (first | apply Kd.R_alloc | apply Kd.R_drewN | apply Kd.R_drew)); exact HO_9.out⟩, ⟨by (with_reducible repeat (first | apply Kd.R_alloc | apply Kd.R_drewN | apply Kd.R_drew)); exact HO_11.out⟩, ⟨by repeat (first | (with_reducible first | exact HB.out | apply below_alloc | apply pw_below_drewN | apply below_drew1) | exact HB.out)⟩⟩
               case round =>
                clear H'
                try clear c1
                try clear p1
                try clear q1
                try clear hx1
                try clear c2
                try clear p2
                try clear c3
                try clear c5
                try clear c6
                try clear c6b0
                try clear c6b1
                try clear p6
                try clear c7
                try clear c7b0
                try clear c7b1
                try clear c8
                try clear c8b0
                try clear c9
                try clear c10
                try clear c10b0
                try clear c11
                try clear c11b0
                try clear p12
                try clear q12
                try clear hx12
                try clear c13
                try clear c13b0
                try clear c13b1
                try clear c16
                try clear c16b0
                try clear c16b1
                try clear c16b2
                try clear c17
                try clear c17b0
                try clear c17b1
                try clear c17b2
                try clear c23
                try clear c23b0
                try clear c23b1
                try clear c24
                try clear c26
                try clear c26b0
                try clear c26b1
                try clear c30
                try clear p1
                try clear p12
                try clear p2
                try clear p6
                try clear q1
                try clear q12
                obtain ⟨x13_5, rfl, HA, HK5, HO_7, HO_9, HO_11, HB⟩ := hrel
                cases gk with
                | zero => exact absurd HA.out (by simp [quoinlaw15_LexParts.l1])
                | succ k5 =>
                 have H := HA.out
                 clear HA
                 simp only [quoinlaw15_LexParts.l1] at H
                 by_cases c31 : x13_5 < (t166.length : Int)
                 ·
                  rw [if_pos c31] at H
                  have c31b0 : decide (x13_5 < (t166.length : Int)) = true := decide_eq_true c31
                  clear c31
                  by_cases c32 : x13_5 < (t158.length : Int)
                  ·
                   rw [if_pos c32] at H
                   have c32b0 : decide (x13_5 < (t158.length : Int)) = true := decide_eq_true c32
                   clear c32
                   by_cases c33 : 0 ≤ x13_5
                   ·
                    rw [if_pos c33] at H
                    have c33b0 : decide (0 ≤ x13_5) = true := decide_eq_true c33
                    clear c33
                    by_cases c34 : (!(((rd_T23 t166 x13_5).f0) == ((rd_T23 t158 x13_5).f0)) || (!((((rd_T23 t166 x13_5).f1).toList) == (((rd_T23 t158 x13_5).f1).toList)) || (!(((rd_T23 t166 x13_5).f2) == ((rd_T23 t158 x13_5).f2))))) = true
                    ·
                     rw [if_pos c34] at H
                     exact absurd H (by simp)
                    ·
                     rw [if_neg c34] at H
                     have c34b0 : (!(((rd_T23 t166 x13_5).f0) == ((rd_T23 t158 x13_5).f0)) || (!((((rd_T23 t166 x13_5).f1).toList) == (((rd_T23 t158 x13_5).f1).toList)) || (!(((rd_T23 t166 x13_5).f2) == ((rd_T23 t158 x13_5).f2))))) = false := by simpa using c34
                     clear c34
                     by_cases c35 : x13_5 ≥ (t158.length : Int)
                     ·
                      rw [if_pos c35] at H
                      have c35b0 : decide ((t158.length : Int) ≤ x13_5) = true := decide_eq_true c35
                      clear c35
                      obtain ⟨ji36, hji36⟩ : ∃ j_ : Int, (wrap64 (x13_5 - (t158.length : Int))) = j_ := ⟨_, rfl⟩
                      replace H : (if 0 ≤ (ji36) then (if (ji36) < (t162.length : Int) then (if (!(((rd_T23 t166 x13_5).f0) == ((rd_T23 t162 (ji36)).f0)) || (!((((rd_T23 t166 x13_5).f1).toList) == (((rd_T23 t162 (ji36)).f1).toList)) || (!(((rd_T23 t166 x13_5).f2) == ((rd_T23 t162 (ji36)).f2))))) = true then (none) else (quoinlaw15_LexParts.l1 k5 t158 t162 t166 (wrap64 (x13_5 + 1)))) else (none)) else (none)) = some r := by first | (rw [hji36] at H; exact H) | (simp only [hji36] at H ⊢; exact H)
                      have hji36w : (IntKind.i64.wrap (x13_5 - (t158.length : Int))) = ji36 := (i64_w _).trans hji36
                      by_cases c37 : 0 ≤ (ji36)
                      ·
                       rw [if_pos c37] at H
                       have c37b0 : decide (0 ≤ (ji36)) = true := decide_eq_true c37
                       clear c37
                       by_cases c38 : (ji36) < (t162.length : Int)
                       ·
                        rw [if_pos c38] at H
                        have c38b0 : decide ((ji36) < (t162.length : Int)) = true := decide_eq_true c38
                        clear c38
                        by_cases c39 : (!(((rd_T23 t166 x13_5).f0) == ((rd_T23 t162 (ji36)).f0)) || (!((((rd_T23 t166 x13_5).f1).toList) == (((rd_T23 t162 (ji36)).f1).toList)) || (!(((rd_T23 t166 x13_5).f2) == ((rd_T23 t162 (ji36)).f2))))) = true
                        ·
                         rw [if_pos c39] at H
                         exact absurd H (by simp)
                        ·
                         rw [if_neg c39] at H
                         have c39b0 : (!(((rd_T23 t166 x13_5).f0) == ((rd_T23 t162 (ji36)).f0)) || (!((((rd_T23 t166 x13_5).f1).toList) == (((rd_T23 t162 (ji36)).f1).toList)) || (!(((rd_T23 t166 x13_5).f2) == ((rd_T23 t162 (ji36)).f2))))) = false := by simpa using c39
                         clear c39
                         have H' := Aside0.mk H
                         clear H
                         obtain ⟨Ao40, co40, eo40⟩ := Kd.R_slice HO_11.out
                         subst eo40
                         obtain ⟨Ao41, co41, eo41⟩ := Kd.R_slice HO_7.out
                         subst eo41
                         have p170 : 0 ≤ (x13_5 : Int) := of_decide_eq_true (by first | (with_reducible assumption) | assumption)
                         have q170 : x13_5 < (t166.length : Int) := of_decide_eq_true (by first | (with_reducible assumption) | assumption)
                         obtain ⟨ad170, e170, hx170_0, hx170_1, hx170_2⟩ := at_T23 (Kd.R_reads' HO_11.out).2.2 x13_5 p170 q170
                         cases e170
                         replace p170 := eq_true p170
                         replace q170 := eq_true q170
                         have p171 : 0 ≤ (x13_5 : Int) := of_decide_eq_true (by first | (with_reducible assumption) | assumption)
                         have q171 : x13_5 < (t158.length : Int) := of_decide_eq_true (by first | (with_reducible assumption) | assumption)
                         obtain ⟨ad171, e171, hx171_0, hx171_1, hx171_2⟩ := at_T23 (Kd.R_reads' HO_7.out).2.2 x13_5 p171 q171
                         cases e171
                         replace p171 := eq_true p171
                         replace q171 := eq_true q171
                         have p172 : 0 ≤ (x13_5 : Int) := of_decide_eq_true (by first | (with_reducible assumption) | assumption)
                         have q172 : x13_5 < (t166.length : Int) := of_decide_eq_true (by first | (with_reducible assumption) | assumption)
                         obtain ⟨ad172, e172, hx172_0, hx172_1, hx172_2⟩ := at_T23 (Kd.R_reads' HO_11.out).2.2 x13_5 p172 q172
                         obtain rfl : ad170 = ad172 := (by injection e172)
                         replace p172 := eq_true p172
                         replace q172 := eq_true q172
                         obtain ⟨Ao42, co42, eo42⟩ := Kd.R_slice HO_9.out
                         subst eo42
                         have p173 : 0 ≤ ((ji36) : Int) := of_decide_eq_true (by first | (with_reducible assumption) | assumption)
                         have q173 : (ji36) < (t162.length : Int) := of_decide_eq_true (by first | (with_reducible assumption) | assumption)
                         obtain ⟨ad173, e173, hx173_0, hx173_1, hx173_2⟩ := at_T23 (Kd.R_reads' HO_9.out).2.2 (ji36) p173 q173
                         cases e173
                         replace p173 := eq_true p173
                         replace q173 := eq_true q173
                         go_wp2
                         repeat (go_quiet (fail); try go_wp2)
                         go_roundg k5
                         case measure => have := HJ3.out; have := HK2.out; have := HJ18.out; have := HJ24.out; have := HK5.out; omega
                         case rel => exact ⟨(wrap64 (x13_5 + 1)), (by first | rfl | (simp; done) | (simp [*]; done) | (simp [show (⟨#[32, 9]⟩ : ByteArray).size = 2 from rfl, show (⟨#[32, 9, 35, 32, 97, 32, 114, 101, 109, 97, 114, 107, 58, 32, 34, 32, 44]⟩ : ByteArray).size = 17 from rfl]; done)), H', ⟨by have := HJ3.out; have := HK2.out; have := HJ18.out; have := HJ24.out; have := HK5.out; omega⟩, ⟨by (with_reducible repeat (first | apply Kd.R_alloc | apply Kd.R_drewN | apply Kd.R_drew)); exact HO_7.out⟩, ⟨by (with_reducible repeat (first | apply Kd.R_alloc | apply Kd.R_drewN | apply Kd.R_drew)); exact HO_9.out⟩, ⟨by (with_reducible repeat (first | apply Kd.R_alloc | apply Kd.R_drewN | apply Kd.R_drew)); exact HO_11.out⟩, ⟨by repeat (first | (with_reducible first | exact HB.out | apply below_alloc | apply pw_below_drewN | apply below_drew1) | exact HB.out)⟩⟩
                       ·
                        rw [if_neg c38] at H
                        exact absurd H (by simp)
                      ·
                       rw [if_neg c37] at H
                       exact absurd H (by simp)
                     ·
                      rw [if_neg c35] at H
                      have c35b0 : decide ((t158.length : Int) ≤ x13_5) = false := decide_eq_false c35
                      clear c35
                      have H' := Aside0.mk H
                      clear H
                      obtain ⟨Ao43, co43, eo43⟩ := Kd.R_slice HO_11.out
                      subst eo43
                      obtain ⟨Ao44, co44, eo44⟩ := Kd.R_slice HO_7.out
                      subst eo44
                      have p170 : 0 ≤ (x13_5 : Int) := of_decide_eq_true (by first | (with_reducible assumption) | assumption)
                      have q170 : x13_5 < (t166.length : Int) := of_decide_eq_true (by first | (with_reducible assumption) | assumption)
                      obtain ⟨ad170, e170, hx170_0, hx170_1, hx170_2⟩ := at_T23 (Kd.R_reads' HO_11.out).2.2 x13_5 p170 q170
                      cases e170
                      replace p170 := eq_true p170
                      replace q170 := eq_true q170
                      have p171 : 0 ≤ (x13_5 : Int) := of_decide_eq_true (by first | (with_reducible assumption) | assumption)
                      have q171 : x13_5 < (t158.length : Int) := of_decide_eq_true (by first | (with_reducible assumption) | assumption)
                      obtain ⟨ad171, e171, hx171_0, hx171_1, hx171_2⟩ := at_T23 (Kd.R_reads' HO_7.out).2.2 x13_5 p171 q171
                      cases e171
                      replace p171 := eq_true p171
                      replace q171 := eq_true q171
                      go_wp2
                      repeat (go_quiet (fail); try go_wp2)
                      go_roundg k5
                      case measure => have := HJ3.out; have := HK2.out; have := HJ18.out; have := HJ24.out; have := HK5.out; omega
                      case rel => exact ⟨(wrap64 (x13_5 + 1)), (by first | rfl | (simp; done) | (simp [*]; done) | (simp [show (⟨#[32, 9]⟩ : ByteArray).size = 2 from rfl, show (⟨#[32, 9, 35, 32, 97, 32, 114, 101, 109, 97, 114, 107, 58, 32, 34, 32, 44]⟩ : ByteArray).size = 17 from rfl]; done)), H', ⟨by have := HJ3.out; have := HK2.out; have := HJ18.out; have := HJ24.out; have := HK5.out; omega⟩, ⟨by (with_reducible repeat (first | apply Kd.R_alloc | apply Kd.R_drewN | apply Kd.R_drew)); exact HO_7.out⟩, ⟨by (with_reducible repeat (first | apply Kd.R_alloc | apply Kd.R_drewN | apply Kd.R_drew)); exact HO_9.out⟩, ⟨by (with_reducible repeat (first | apply Kd.R_alloc | apply Kd.R_drewN | apply Kd.R_drew)); exact HO_11.out⟩, ⟨by repeat (first | (with_reducible first | exact HB.out | apply below_alloc | apply pw_below_drewN | apply below_drew1) | exact HB.out)⟩⟩
                   ·
                    rw [if_neg c33] at H
                    exact absurd H (by simp)
                  ·
                   rw [if_neg c32] at H
                   have c32b0 : decide (x13_5 < (t158.length : Int)) = false := decide_eq_false c32
                   clear c32
                   by_cases c45 : x13_5 ≥ (t158.length : Int)
                   ·
                    rw [if_pos c45] at H
                    have c45b0 : decide ((t158.length : Int) ≤ x13_5) = true := decide_eq_true c45
                    clear c45
                    by_cases c46 : 0 ≤ x13_5
                    ·
                     rw [if_pos c46] at H
                     have c46b0 : decide (0 ≤ x13_5) = true := decide_eq_true c46
                     clear c46
                     obtain ⟨ji47, hji47⟩ : ∃ j_ : Int, (wrap64 (x13_5 - (t158.length : Int))) = j_ := ⟨_, rfl⟩
                     replace H : (if 0 ≤ (ji47) then (if (ji47) < (t162.length : Int) then (if (!(((rd_T23 t166 x13_5).f0) == ((rd_T23 t162 (ji47)).f0)) || (!((((rd_T23 t166 x13_5).f1).toList) == (((rd_T23 t162 (ji47)).f1).toList)) || (!(((rd_T23 t166 x13_5).f2) == ((rd_T23 t162 (ji47)).f2))))) = true then (none) else (quoinlaw15_LexParts.l1 k5 t158 t162 t166 (wrap64 (x13_5 + 1)))) else (none)) else (none)) = some r := by first | (rw [hji47] at H; exact H) | (simp only [hji47] at H ⊢; exact H)
                     have hji47w : (IntKind.i64.wrap (x13_5 - (t158.length : Int))) = ji47 := (i64_w _).trans hji47
                     by_cases c48 : 0 ≤ (ji47)
                     ·
                      rw [if_pos c48] at H
                      have c48b0 : decide (0 ≤ (ji47)) = true := decide_eq_true c48
                      clear c48
                      by_cases c49 : (ji47) < (t162.length : Int)
                      ·
                       rw [if_pos c49] at H
                       have c49b0 : decide ((ji47) < (t162.length : Int)) = true := decide_eq_true c49
                       clear c49
                       by_cases c50 : (!(((rd_T23 t166 x13_5).f0) == ((rd_T23 t162 (ji47)).f0)) || (!((((rd_T23 t166 x13_5).f1).toList) == (((rd_T23 t162 (ji47)).f1).toList)) || (!(((rd_T23 t166 x13_5).f2) == ((rd_T23 t162 (ji47)).f2))))) = true
                       ·
                        rw [if_pos c50] at H
                        exact absurd H (by simp)
                       ·
                        rw [if_neg c50] at H
                        have c50b0 : (!(((rd_T23 t166 x13_5).f0) == ((rd_T23 t162 (ji47)).f0)) || (!((((rd_T23 t166 x13_5).f1).toList) == (((rd_T23 t162 (ji47)).f1).toList)) || (!(((rd_T23 t166 x13_5).f2) == ((rd_T23 t162 (ji47)).f2))))) = false := by simpa using c50
                        clear c50
                        have H' := Aside0.mk H
                        clear H
                        obtain ⟨Ao51, co51, eo51⟩ := Kd.R_slice HO_11.out
                        subst eo51
                        obtain ⟨Ao52, co52, eo52⟩ := Kd.R_slice HO_7.out
                        subst eo52
                        have p174 : 0 ≤ (x13_5 : Int) := of_decide_eq_true (by first | (with_reducible assumption) | assumption)
                        have q174 : x13_5 < (t166.length : Int) := of_decide_eq_true (by first | (with_reducible assumption) | assumption)
                        obtain ⟨ad174, e174, hx174_0, hx174_1, hx174_2⟩ := at_T23 (Kd.R_reads' HO_11.out).2.2 x13_5 p174 q174
                        cases e174
                        replace p174 := eq_true p174
                        replace q174 := eq_true q174
                        obtain ⟨Ao53, co53, eo53⟩ := Kd.R_slice HO_9.out
                        subst eo53
                        have p175 : 0 ≤ ((ji47) : Int) := of_decide_eq_true (by first | (with_reducible assumption) | assumption)
                        have q175 : (ji47) < (t162.length : Int) := of_decide_eq_true (by first | (with_reducible assumption) | assumption)
                        obtain ⟨ad175, e175, hx175_0, hx175_1, hx175_2⟩ := at_T23 (Kd.R_reads' HO_9.out).2.2 (ji47) p175 q175
                        cases e175
                        replace p175 := eq_true p175
                        replace q175 := eq_true q175
                        go_wp2
                        repeat (go_quiet (fail); try go_wp2)
                        go_roundg k5
                        case measure => have := HJ3.out; have := HK2.out; have := HJ18.out; have := HJ24.out; have := HK5.out; omega
                        case rel => exact ⟨(wrap64 (x13_5 + 1)), (by first | rfl | (simp; done) | (simp [*]; done) | (simp [show (⟨#[32, 9]⟩ : ByteArray).size = 2 from rfl, show (⟨#[32, 9, 35, 32, 97, 32, 114, 101, 109, 97, 114, 107, 58, 32, 34, 32, 44]⟩ : ByteArray).size = 17 from rfl]; done)), H', ⟨by have := HJ3.out; have := HK2.out; have := HJ18.out; have := HJ24.out; have := HK5.out; omega⟩, ⟨by (with_reducible repeat (first | apply Kd.R_alloc | apply Kd.R_drewN | apply Kd.R_drew)); exact HO_7.out⟩, ⟨by (with_reducible repeat (first | apply Kd.R_alloc | apply Kd.R_drewN | apply Kd.R_drew)); exact HO_9.out⟩, ⟨by (with_reducible repeat (first | apply Kd.R_alloc | apply Kd.R_drewN | apply Kd.R_drew)); exact HO_11.out⟩, ⟨by repeat (first | (with_reducible first | exact HB.out | apply below_alloc | apply pw_below_drewN | apply below_drew1) | exact HB.out)⟩⟩
                      ·
                       rw [if_neg c49] at H
                       exact absurd H (by simp)
                     ·
                      rw [if_neg c48] at H
                      exact absurd H (by simp)
                    ·
                     rw [if_neg c46] at H
                     exact absurd H (by simp)
                   ·
                    rw [if_neg c45] at H
                    have c45b0 : decide ((t158.length : Int) ≤ x13_5) = false := decide_eq_false c45
                    clear c45
                    have H' := Aside0.mk H
                    clear H
                    obtain ⟨Ao54, co54, eo54⟩ := Kd.R_slice HO_11.out
                    subst eo54
                    obtain ⟨Ao55, co55, eo55⟩ := Kd.R_slice HO_7.out
                    subst eo55
                    go_wp2
                    repeat (go_quiet (fail); try go_wp2)
                    go_roundg k5
                    case measure => have := HJ3.out; have := HK2.out; have := HJ18.out; have := HJ24.out; have := HK5.out; omega
                    case rel => exact ⟨(wrap64 (x13_5 + 1)), (by first | rfl | (simp; done) | (simp [*]; done) | (simp [show (⟨#[32, 9]⟩ : ByteArray).size = 2 from rfl, show (⟨#[32, 9, 35, 32, 97, 32, 114, 101, 109, 97, 114, 107, 58, 32, 34, 32, 44]⟩ : ByteArray).size = 17 from rfl]; done)), H', ⟨by have := HJ3.out; have := HK2.out; have := HJ18.out; have := HJ24.out; have := HK5.out; omega⟩, ⟨by (with_reducible repeat (first | apply Kd.R_alloc | apply Kd.R_drewN | apply Kd.R_drew)); exact HO_7.out⟩, ⟨by (with_reducible repeat (first | apply Kd.R_alloc | apply Kd.R_drewN | apply Kd.R_drew)); exact HO_9.out⟩, ⟨by (with_reducible repeat (first | apply Kd.R_alloc | apply Kd.R_drewN | apply Kd.R_drew)); exact HO_11.out⟩, ⟨by repeat (first | (with_reducible first | exact HB.out | apply below_alloc | apply pw_below_drewN | apply below_drew1) | exact HB.out)⟩⟩
                 ·
                  rw [if_neg c31] at H
                  have c31b0 : decide (x13_5 < (t166.length : Int)) = false := decide_eq_false c31
                  clear c31
                  obtain rfl := Option.some.inj H
                  obtain ⟨Ao56, co56, eo56⟩ := Kd.R_slice HO_11.out
                  subst eo56
                  go_wp2
                  repeat (go_quiet (fail); try go_wp2)
                  go_ret
                  exact ⟨by first | rfl | (simp [errW_none, errW_some] <;> rfl) | (simp [*, errW_none, errW_some] <;> rfl), by repeat (first | (with_reducible first | exact HB.out | apply below_alloc | apply pw_below_drewN | apply below_drew1) | exact HB.out)⟩
        ·
         rw [if_neg c17] at H
         exact absurd H (by simp)
       ·
        rw [if_neg c16] at H
        exact absurd H (by simp)

/-- THE ONE PURE STATEMENT of quoinlaw15_LexParts: yours. -/
def quoinlaw15_LexParts.Pure : Prop := ∀ (a0 : ByteArray) (a1 : ByteArray), a0.size ≤ 140737488351232 → a1.size ≤ 140737488351232 → ∃ k, quoinlaw15_LexParts.f k a0 a1 = some true
theorem quoinlaw15_LexParts.walk (P : quoinlaw15_LexParts.Pure) (a0 : ByteArray) (a1 : ByteArray) (w : World) (hE : LexW.LexE w) (w0_0 : a0.size ≤ 140737488351232) (w1_0 : a1.size ≤ 140737488351232) :
  Calls Tryd.prog 5 #[.string a0, .string a1] w fun e w' => e = .returned (.bool true) ∧ Below w.heap.size w w' := by
 obtain ⟨k, h⟩ := P a0 a1 w0_0 w1_0
 refine (quoinlaw15_LexParts.calls k a0 a1 true w hE h).mono ?_
 rintro e w' ⟨rfl, hd⟩
 exact ⟨rfl, hd⟩

end Go.Proofs.YtajnkmandhomlaaDoor.P
