-- Written by pext.py, a program of this session, over the kit's print: a function's contract
import Derived.Test.YtoljgjnbkejhaaaPx0
import Derived.Test.YtoljgjnbkejhaaaPx1
import Derived.Test.YtoljgjnbkejhaaaPx4
namespace Go.Proofs.Ytoljgjnbkejhaaa.P
open Go.RowKit Go.Proofs.YtoljgjnbkejhaaaW.PrintWords Go.Proofs.YtoljgjnbkejhaaaW.PrintLast Go.Proofs.YtoljgjnbkejhaaaW.PrintMore
attribute [local go_sem] max2_int min2_int max_two min_two max_three min_three max_four min_four   -- for this text's walks alone
set_option linter.unusedVariables false
set_option linter.unusedSimpArgs false

/-! ### quoinlaw26_ApplyParts: function 5 -/
def quoinlaw26_ApplyParts.f (k : Nat) (a0 : Int) : Option (Bool) := (quoinlaw26_alive.f k).bind fun t350 => ((apply_High.f a0).bind fun bt351 => ((apply_Low.f a0).bind fun bt353 => (if a0 < (-2147485696) then (if t350 = true then (if bt351.2 = 260 then (if bt353.2 = 260 then (if bt351.1 = 0 then (some (bt353.1 == 0)) else (none)) else (none)) else (none)) else (none)) else (if a0 > 2147481599 then (if t350 = true then (if bt351.2 = 260 then (if bt353.2 = 260 then (if bt351.1 = 0 then (some (bt353.1 == 0)) else (none)) else (none)) else (none)) else (none)) else (if t350 = true then (if bt351.2 = 0 then (if bt353.2 = 0 then (if bt353.1 ≥ (-2048) then (if bt353.1 < 2048 then (if bt351.1 ≥ (-524288) then (if bt351.1 < 524288 then (some ((wrap64 (bt353.1 + (wrap64 (4096 * bt351.1)))) == a0)) else (none)) else (none)) else (none)) else (none)) else (none)) else (none)) else (none))))))
theorem quoinlaw26_ApplyParts.mono : ∀ a0 k, LeO (quoinlaw26_ApplyParts.f k a0) (quoinlaw26_ApplyParts.f (k + 1) a0) := by
 intro a0 k
 unfold quoinlaw26_ApplyParts.f
 repeat' first
   | (with_reducible exact quoinlaw26_alive.mono _)
   | (with_reducible exact LeO.refl _)
   | (with_reducible exact LeO.none _)
   | (with_reducible refine LeO.ite ?_ ?_)
   | (with_reducible refine LeO.bind ?_ (fun _ => ?_))
   | exact quoinlaw26_alive.mono _
   | exact LeO.none _
   | refine LeO.ite ?_ ?_
   | refine LeO.bind ?_ (fun _ => ?_)
set_option maxHeartbeats 8000000 in
set_option maxRecDepth 100000 in
theorem quoinlaw26_ApplyParts.calls (k : Nat) (a0 : Int) (r : Bool) (w : World) (h : quoinlaw26_ApplyParts.f k a0 = some r) :
  Calls Try.prog 5 #[.int .i64 a0] w fun e w' => e = .returned (.bool r) ∧ Below w.heap.size w w' := by
 have HB := Aside0.mk (Below.refl w.heap.size w)
 have H : ((quoinlaw26_alive.f k).bind fun t350 => ((apply_High.f a0).bind fun bt351 => ((apply_Low.f a0).bind fun bt353 => (if a0 < (-2147485696) then (if t350 = true then (if bt351.2 = 260 then (if bt353.2 = 260 then (if bt351.1 = 0 then (some (bt353.1 == 0)) else (none)) else (none)) else (none)) else (none)) else (if a0 > 2147481599 then (if t350 = true then (if bt351.2 = 260 then (if bt353.2 = 260 then (if bt351.1 = 0 then (some (bt353.1 == 0)) else (none)) else (none)) else (none)) else (none)) else (if t350 = true then (if bt351.2 = 0 then (if bt353.2 = 0 then (if bt353.1 ≥ (-2048) then (if bt353.1 < 2048 then (if bt351.1 ≥ (-524288) then (if bt351.1 < 524288 then (some ((wrap64 (bt353.1 + (wrap64 (4096 * bt351.1)))) == a0)) else (none)) else (none)) else (none)) else (none)) else (none)) else (none)) else (none))))))) = some r := h
 clear h
 replace H := Option.bind_eq_some_iff.mp H
 obtain ⟨t350, A20, H⟩ := H
 replace H : ((apply_High.f a0).bind fun bt351 => ((apply_Low.f a0).bind fun bt353 => (if a0 < (-2147485696) then (if t350 = true then (if bt351.2 = 260 then (if bt353.2 = 260 then (if bt351.1 = 0 then (some (bt353.1 == 0)) else (none)) else (none)) else (none)) else (none)) else (if a0 > 2147481599 then (if t350 = true then (if bt351.2 = 260 then (if bt353.2 = 260 then (if bt351.1 = 0 then (some (bt353.1 == 0)) else (none)) else (none)) else (none)) else (none)) else (if t350 = true then (if bt351.2 = 0 then (if bt353.2 = 0 then (if bt353.1 ≥ (-2048) then (if bt353.1 < 2048 then (if bt351.1 ≥ (-524288) then (if bt351.1 < 524288 then (some ((wrap64 (bt353.1 + (wrap64 (4096 * bt351.1)))) == a0)) else (none)) else (none)) else (none)) else (none)) else (none)) else (none)) else (none)))))) = some r := H
 have A2 := Aside0.mk A20
 clear A20
 replace H := Option.bind_eq_some_iff.mp H
 obtain ⟨⟨t351, t352⟩, A30, H⟩ := H
 replace H : ((apply_Low.f a0).bind fun bt353 => (if a0 < (-2147485696) then (if t350 = true then (if t352 = 260 then (if bt353.2 = 260 then (if t351 = 0 then (some (bt353.1 == 0)) else (none)) else (none)) else (none)) else (none)) else (if a0 > 2147481599 then (if t350 = true then (if t352 = 260 then (if bt353.2 = 260 then (if t351 = 0 then (some (bt353.1 == 0)) else (none)) else (none)) else (none)) else (none)) else (if t350 = true then (if t352 = 0 then (if bt353.2 = 0 then (if bt353.1 ≥ (-2048) then (if bt353.1 < 2048 then (if t351 ≥ (-524288) then (if t351 < 524288 then (some ((wrap64 (bt353.1 + (wrap64 (4096 * t351)))) == a0)) else (none)) else (none)) else (none)) else (none)) else (none)) else (none)) else (none))))) = some r := H
 have A3 := Aside0.mk A30
 clear A30
 replace H := Option.bind_eq_some_iff.mp H
 obtain ⟨⟨t353, t354⟩, A40, H⟩ := H
 replace H : (if a0 < (-2147485696) then (if t350 = true then (if t352 = 260 then (if t354 = 260 then (if t351 = 0 then (some (t353 == 0)) else (none)) else (none)) else (none)) else (none)) else (if a0 > 2147481599 then (if t350 = true then (if t352 = 260 then (if t354 = 260 then (if t351 = 0 then (some (t353 == 0)) else (none)) else (none)) else (none)) else (none)) else (if t350 = true then (if t352 = 0 then (if t354 = 0 then (if t353 ≥ (-2048) then (if t353 < 2048 then (if t351 ≥ (-524288) then (if t351 < 524288 then (some ((wrap64 (t353 + (wrap64 (4096 * t351)))) == a0)) else (none)) else (none)) else (none)) else (none)) else (none)) else (none)) else (none)))) = some r := H
 have A4 := Aside0.mk A40
 clear A40
 by_cases c5 : a0 < (-2147485696)
 ·
  rw [if_pos c5] at H
  have c5b0 : decide (a0 < (-2147485696)) = true := decide_eq_true c5
  clear c5
  by_cases c6 : t350 = true
  ·
   subst c6
   have H1 : (if t352 = 260 then (if t354 = 260 then (if t351 = 0 then (some (t353 == 0)) else (none)) else (none)) else (none)) = some r := by rw [if_pos rfl] at H; exact H
   clear H
   have H := H1
   clear H1
   by_cases c7 : t352 = 260
   ·
    rw [if_pos c7] at H
    have c7b0 : (t352 == 260) = true := beq_iff_eq.mpr c7
    have c7b1 : (t352 != 260) = false := bne_eq_false_iff_eq.mpr c7
    clear c7
    by_cases c8 : t354 = 260
    ·
     rw [if_pos c8] at H
     have c8b0 : (t354 == 260) = true := beq_iff_eq.mpr c8
     have c8b1 : (t354 != 260) = false := bne_eq_false_iff_eq.mpr c8
     clear c8
     by_cases c9 : t351 = 0
     ·
      rw [if_pos c9] at H
      have c9b0 : (t351 == 0) = true := beq_iff_eq.mpr c9
      have c9b1 : (t351 != 0) = false := bne_eq_false_iff_eq.mpr c9
      clear c9
      obtain rfl := Option.some.inj H
      go_enter Try.func5, Try.ntmps5
      go_wp2_with (first | ((with_reducible refine gate_callee (f := 12) rfl ?_); refine goesL_ (some 8) rfl rfl Try.func12 (by kernel_rfl) rfl #[] rfl (by (try simp only [List.map_toArray, List.map_cons, List.map_nil]); first | done | rfl | (simp only [List.length_drop, List.length_take]; rfl)) ?_; (with_reducible refine (quoinlaw26_alive.calls k  true _ A2.out).mono ?_); rintro e w10 ⟨rfl, hb⟩; refine ⟨_, rfl, ?_⟩; have n0_ := Aside0.mk (below_step (by repeat (first | (with_reducible first | exact HB.out | apply below_alloc | apply pw_below_drewN | apply below_drew1) | exact HB.out)) hb); clear HB; have HB := n0_; clear n0_; (try clear hb); (try clear hb2); (try clear hk); (try clear hi)) | ((with_reducible refine gate_callee (f := 9) rfl ?_); refine goesL_ (some 11) rfl rfl Try.func9 (by kernel_rfl) rfl #[.int .i64 a0] rfl (by (try simp only [List.map_toArray, List.map_cons, List.map_nil]); first | done | rfl | (simp only [List.length_drop, List.length_take]; rfl)) ?_; (with_reducible refine (apply_High.calls a0 t351 t352 _ A3.out).mono ?_); rintro e w' ⟨rfl, ⟨nd, rfl⟩⟩; refine ⟨_, rfl, ?_⟩) | ((with_reducible refine gate_callee (f := 10) rfl ?_); refine goesL_ (some 16) rfl rfl Try.func10 (by kernel_rfl) rfl #[.int .i64 a0] rfl (by (try simp only [List.map_toArray, List.map_cons, List.map_nil]); first | done | rfl | (simp only [List.length_drop, List.length_take]; rfl)) ?_; (with_reducible refine (apply_Low.calls a0 t353 t354 _ A4.out).mono ?_); rintro e w' ⟨rfl, ⟨nd, rfl⟩⟩; refine ⟨_, rfl, ?_⟩))
      go_ret
      exact ⟨by first | rfl | (simp [errW_none, errW_some] <;> rfl) | (simp [*, errW_none, errW_some] <;> rfl), by repeat (first | (with_reducible first | exact HB.out | apply below_alloc | apply pw_below_drewN | apply below_drew1) | exact HB.out)⟩
     ·
      rw [if_neg c9] at H
      exact absurd H (by simp)
    ·
     rw [if_neg c8] at H
     exact absurd H (by simp)
   ·
    rw [if_neg c7] at H
    exact absurd H (by simp)
  ·
   replace c6 := Bool.eq_false_iff.mpr c6
   subst c6
   have H1 : (none) = some r := by rw [if_neg (show ¬ (false = true) by decide)] at H; exact H
   clear H
   have H := H1
   clear H1
   exact absurd H (by simp)
 ·
  rw [if_neg c5] at H
  have c5b0 : decide (a0 < (-2147485696)) = false := decide_eq_false c5
  clear c5
  by_cases c11 : a0 > 2147481599
  ·
   rw [if_pos c11] at H
   have c11b0 : decide (2147481599 < a0) = true := decide_eq_true c11
   clear c11
   by_cases c12 : t350 = true
   ·
    subst c12
    have H1 : (if t352 = 260 then (if t354 = 260 then (if t351 = 0 then (some (t353 == 0)) else (none)) else (none)) else (none)) = some r := by rw [if_pos rfl] at H; exact H
    clear H
    have H := H1
    clear H1
    by_cases c13 : t352 = 260
    ·
     rw [if_pos c13] at H
     have c13b0 : (t352 == 260) = true := beq_iff_eq.mpr c13
     have c13b1 : (t352 != 260) = false := bne_eq_false_iff_eq.mpr c13
     clear c13
     by_cases c14 : t354 = 260
     ·
      rw [if_pos c14] at H
      have c14b0 : (t354 == 260) = true := beq_iff_eq.mpr c14
      have c14b1 : (t354 != 260) = false := bne_eq_false_iff_eq.mpr c14
      clear c14
      by_cases c15 : t351 = 0
      ·
       rw [if_pos c15] at H
       have c15b0 : (t351 == 0) = true := beq_iff_eq.mpr c15
       have c15b1 : (t351 != 0) = false := bne_eq_false_iff_eq.mpr c15
       clear c15
       obtain rfl := Option.some.inj H
       go_enter Try.func5, Try.ntmps5
       go_wp2_with (first | ((with_reducible refine gate_callee (f := 12) rfl ?_); refine goesL_ (some 8) rfl rfl Try.func12 (by kernel_rfl) rfl #[] rfl (by (try simp only [List.map_toArray, List.map_cons, List.map_nil]); first | done | rfl | (simp only [List.length_drop, List.length_take]; rfl)) ?_; (with_reducible refine (quoinlaw26_alive.calls k  true _ A2.out).mono ?_); rintro e w16 ⟨rfl, hb⟩; refine ⟨_, rfl, ?_⟩; have n0_ := Aside0.mk (below_step (by repeat (first | (with_reducible first | exact HB.out | apply below_alloc | apply pw_below_drewN | apply below_drew1) | exact HB.out)) hb); clear HB; have HB := n0_; clear n0_; (try clear hb); (try clear hb2); (try clear hk); (try clear hi)) | ((with_reducible refine gate_callee (f := 9) rfl ?_); refine goesL_ (some 11) rfl rfl Try.func9 (by kernel_rfl) rfl #[.int .i64 a0] rfl (by (try simp only [List.map_toArray, List.map_cons, List.map_nil]); first | done | rfl | (simp only [List.length_drop, List.length_take]; rfl)) ?_; (with_reducible refine (apply_High.calls a0 t351 t352 _ A3.out).mono ?_); rintro e w' ⟨rfl, ⟨nd, rfl⟩⟩; refine ⟨_, rfl, ?_⟩) | ((with_reducible refine gate_callee (f := 10) rfl ?_); refine goesL_ (some 16) rfl rfl Try.func10 (by kernel_rfl) rfl #[.int .i64 a0] rfl (by (try simp only [List.map_toArray, List.map_cons, List.map_nil]); first | done | rfl | (simp only [List.length_drop, List.length_take]; rfl)) ?_; (with_reducible refine (apply_Low.calls a0 t353 t354 _ A4.out).mono ?_); rintro e w' ⟨rfl, ⟨nd, rfl⟩⟩; refine ⟨_, rfl, ?_⟩))
       go_ret
       exact ⟨by first | rfl | (simp [errW_none, errW_some] <;> rfl) | (simp [*, errW_none, errW_some] <;> rfl), by repeat (first | (with_reducible first | exact HB.out | apply below_alloc | apply pw_below_drewN | apply below_drew1) | exact HB.out)⟩
      ·
       rw [if_neg c15] at H
       exact absurd H (by simp)
     ·
      rw [if_neg c14] at H
      exact absurd H (by simp)
    ·
     rw [if_neg c13] at H
     exact absurd H (by simp)
   ·
    replace c12 := Bool.eq_false_iff.mpr c12
    subst c12
    have H1 : (none) = some r := by rw [if_neg (show ¬ (false = true) by decide)] at H; exact H
    clear H
    have H := H1
    clear H1
    exact absurd H (by simp)
  ·
   rw [if_neg c11] at H
   have c11b0 : decide (2147481599 < a0) = false := decide_eq_false c11
   clear c11
   by_cases c17 : t350 = true
   ·
    subst c17
    have H1 : (if t352 = 0 then (if t354 = 0 then (if t353 ≥ (-2048) then (if t353 < 2048 then (if t351 ≥ (-524288) then (if t351 < 524288 then (some ((wrap64 (t353 + (wrap64 (4096 * t351)))) == a0)) else (none)) else (none)) else (none)) else (none)) else (none)) else (none)) = some r := by rw [if_pos rfl] at H; exact H
    clear H
    have H := H1
    clear H1
    by_cases c18 : t352 = 0
    ·
     rw [if_pos c18] at H
     have c18b0 : (t352 == 0) = true := beq_iff_eq.mpr c18
     have c18b1 : (t352 != 0) = false := bne_eq_false_iff_eq.mpr c18
     clear c18
     by_cases c19 : t354 = 0
     ·
      rw [if_pos c19] at H
      have c19b0 : (t354 == 0) = true := beq_iff_eq.mpr c19
      have c19b1 : (t354 != 0) = false := bne_eq_false_iff_eq.mpr c19
      clear c19
      by_cases c20 : t353 ≥ (-2048)
      ·
       rw [if_pos c20] at H
       have c20b0 : decide ((-2048) ≤ t353) = true := decide_eq_true c20
       clear c20
       by_cases c21 : t353 < 2048
       ·
        rw [if_pos c21] at H
        have c21b0 : decide (t353 < 2048) = true := decide_eq_true c21
        clear c21
        by_cases c22 : t351 ≥ (-524288)
        ·
         rw [if_pos c22] at H
         have c22b0 : decide ((-524288) ≤ t351) = true := decide_eq_true c22
         clear c22
         by_cases c23 : t351 < 524288
         ·
          rw [if_pos c23] at H
          have c23b0 : decide (t351 < 524288) = true := decide_eq_true c23
          clear c23
          obtain rfl := Option.some.inj H
          go_enter Try.func5, Try.ntmps5
          go_wp2_with (first | ((with_reducible refine gate_callee (f := 12) rfl ?_); refine goesL_ (some 8) rfl rfl Try.func12 (by kernel_rfl) rfl #[] rfl (by (try simp only [List.map_toArray, List.map_cons, List.map_nil]); first | done | rfl | (simp only [List.length_drop, List.length_take]; rfl)) ?_; (with_reducible refine (quoinlaw26_alive.calls k  true _ A2.out).mono ?_); rintro e w24 ⟨rfl, hb⟩; refine ⟨_, rfl, ?_⟩; have n0_ := Aside0.mk (below_step (by repeat (first | (with_reducible first | exact HB.out | apply below_alloc | apply pw_below_drewN | apply below_drew1) | exact HB.out)) hb); clear HB; have HB := n0_; clear n0_; (try clear hb); (try clear hb2); (try clear hk); (try clear hi)) | ((with_reducible refine gate_callee (f := 9) rfl ?_); refine goesL_ (some 11) rfl rfl Try.func9 (by kernel_rfl) rfl #[.int .i64 a0] rfl (by (try simp only [List.map_toArray, List.map_cons, List.map_nil]); first | done | rfl | (simp only [List.length_drop, List.length_take]; rfl)) ?_; (with_reducible refine (apply_High.calls a0 t351 t352 _ A3.out).mono ?_); rintro e w' ⟨rfl, ⟨nd, rfl⟩⟩; refine ⟨_, rfl, ?_⟩) | ((with_reducible refine gate_callee (f := 10) rfl ?_); refine goesL_ (some 16) rfl rfl Try.func10 (by kernel_rfl) rfl #[.int .i64 a0] rfl (by (try simp only [List.map_toArray, List.map_cons, List.map_nil]); first | done | rfl | (simp only [List.length_drop, List.length_take]; rfl)) ?_; (with_reducible refine (apply_Low.calls a0 t353 t354 _ A4.out).mono ?_); rintro e w' ⟨rfl, ⟨nd, rfl⟩⟩; refine ⟨_, rfl, ?_⟩))
          go_ret
          exact ⟨by first | rfl | (simp [errW_none, errW_some] <;> rfl) | (simp [*, errW_none, errW_some] <;> rfl), by repeat (first | (with_reducible first | exact HB.out | apply below_alloc | apply pw_below_drewN | apply below_drew1) | exact HB.out)⟩
         ·
          rw [if_neg c23] at H
          exact absurd H (by simp)
        ·
         rw [if_neg c22] at H
         exact absurd H (by simp)
       ·
        rw [if_neg c21] at H
        exact absurd H (by simp)
      ·
       rw [if_neg c20] at H
       exact absurd H (by simp)
     ·
      rw [if_neg c19] at H
      exact absurd H (by simp)
    ·
     rw [if_neg c18] at H
     exact absurd H (by simp)
   ·
    replace c17 := Bool.eq_false_iff.mpr c17
    subst c17
    have H1 : (none) = some r := by rw [if_neg (show ¬ (false = true) by decide)] at H; exact H
    clear H
    have H := H1
    clear H1
    exact absurd H (by simp)

/-- THE ONE PURE STATEMENT of quoinlaw26_ApplyParts: yours. -/
def quoinlaw26_ApplyParts.Pure : Prop := ∀ (a0 : Int), (Lit.int .i64 a0).wf = true → ∃ k, quoinlaw26_ApplyParts.f k a0 = some true
theorem quoinlaw26_ApplyParts.walk (P : quoinlaw26_ApplyParts.Pure) (a0 : Int) (w : World) (w0 : (Lit.int .i64 a0).wf = true) :
  Calls Try.prog 5 #[.int .i64 a0] w fun e w' => e = .returned (.bool true) ∧ Below w.heap.size w w' := by
 obtain ⟨k, h⟩ := P a0 w0
 refine (quoinlaw26_ApplyParts.calls k a0 true w h).mono ?_
 rintro e w' ⟨rfl, hd⟩
 exact ⟨rfl, hd⟩

end Go.Proofs.Ytoljgjnbkejhaaa.P
