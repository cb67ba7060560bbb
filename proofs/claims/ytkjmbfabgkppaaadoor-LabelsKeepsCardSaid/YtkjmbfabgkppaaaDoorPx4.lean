-- Written by pext.py, a program of this session, over the kit's print: a function's contract
import Derived.Test.YtkjmbfabgkppaaaDoorPx0
import Derived.Test.YtkjmbfabgkppaaaDoorPx1
import Derived.Test.YtkjmbfabgkppaaaDoorPx2
import Derived.Test.YtkjmbfabgkppaaaDoorPx3
namespace Go.Proofs.YtkjmbfabgkppaaaDoor.P
open Go.RowKit Go.Proofs.YtkjmbfabgkppaaaDoorW.PrintWords Go.Proofs.YtkjmbfabgkppaaaDoorW.PrintLast Go.Proofs.YtkjmbfabgkppaaaDoorW.PrintMore
attribute [local go_sem] max2_int min2_int max_two min_two max_three min_three max_four min_four   -- for this text's walks alone
set_option linter.unusedVariables false
set_option linter.unusedSimpArgs false

/-! ### quoinref20_Great: function 9 -/
def quoinref20_Great.l0 : Nat → List (S31) → Int → Int → Option (Bool)
 | 0, _, _, _ => none
 | k + 1, x0, x3, x4 => if x4 < (x0.length : Int) then (if x4 < 2000 then (if 0 ≤ x4 then (quoinref20_Great.l0 k x0 (wrap64 ((wrap64 ((wrap64 (x3 + (mn (((rd_T31 x0 x4).f1).length : Int) 100000))) + (mn (((rd_T31 x0 x4).f3).size : Int) 100000))) + (mn (((rd_T31 x0 x4).f4).size : Int) 100000))) (wrap64 (x4 + 1))) else (none)) else (if (x0.length : Int) > 300 then (if (x0.length : Int) ≤ 1024 then (some true) else (if (x0.length : Int) > 1100 then (some true) else (some (decide (x3 > 80000))))) else (if (x0.length : Int) > 1100 then (some true) else (some (decide (x3 > 80000)))))) else (if (x0.length : Int) > 300 then (if (x0.length : Int) ≤ 1024 then (some true) else (if (x0.length : Int) > 1100 then (some true) else (some (decide (x3 > 80000))))) else (if (x0.length : Int) > 1100 then (some true) else (some (decide (x3 > 80000)))))
def quoinref20_Great.f (k : Nat) (l0 : List (S31)) : Option (Bool) := quoinref20_Great.l0 k l0 0 0
theorem quoinref20_Great.mono_l : ∀ k, (∀ y0 y1 y2, LeO (quoinref20_Great.l0 k y0 y1 y2) (quoinref20_Great.l0 (k + 1) y0 y1 y2))
 | 0 => fun _ _ _ r h => by simp [quoinref20_Great.l0] at h
 | k + 1 => by
  have ih0 := quoinref20_Great.mono_l k
  ·
   intro y0 y1 y2
   unfold quoinref20_Great.l0
   repeat' first
   | (with_reducible exact ih0 _ _ _)
   | (with_reducible exact LeO.refl _)
   | (with_reducible exact LeO.none _)
   | (with_reducible refine LeO.ite ?_ ?_)
   | (with_reducible refine LeO.bind ?_ (fun _ => ?_))
   | exact ih0 _ _ _
   | exact LeO.none _
   | refine LeO.ite ?_ ?_
   | refine LeO.bind ?_ (fun _ => ?_)
theorem quoinref20_Great.mono : ∀ a0 k, LeO (quoinref20_Great.f k a0) (quoinref20_Great.f (k + 1) a0) := by
 intro a0 k
 have ih0 := quoinref20_Great.mono_l k
 unfold quoinref20_Great.f
 repeat' first
   | (with_reducible exact ih0 _ _ _)
   | (with_reducible exact LeO.refl _)
   | (with_reducible exact LeO.none _)
   | (with_reducible refine LeO.ite ?_ ?_)
   | (with_reducible refine LeO.bind ?_ (fun _ => ?_))
   | exact ih0 _ _ _
   | exact LeO.none _
   | refine LeO.ite ?_ ?_
   | refine LeO.bind ?_ (fun _ => ?_)
set_option maxHeartbeats 8000000 in
set_option maxRecDepth 100000 in
theorem quoinref20_Great.calls (k : Nat) (A0 : Option Addr) (c0 : Nat) (l0 : List (S31)) (r : Bool) (w : World) (hr0 : Kd.C k31 w A0 l0.length l0) (hc0 : l0.length ≤ c0) (h : quoinref20_Great.f k l0 = some r) :
  Calls Tryd.prog 9 #[.slice A0 l0.length c0] w fun e w' => e = .returned (.bool r) ∧ Below w.heap.size w w' := by
 have HR0 := Aside0.mk hr0
 have HC0 := Aside0.mk hc0
 clear hr0 hc0
 have HB := Aside0.mk (Below.refl w.heap.size w)
 have H : (quoinref20_Great.l0 k l0 0 0) = some r := h
 clear h
 have H' := Aside0.mk H
 clear H
 go_enter Tryd.func9, Tryd.ntmps9
 go_wp2
 repeat (go_quiet (fail); try go_wp2)
 go_loopg [3, 4] k (fun kq v3 v4 w' => ∃ (x3_1 : Int) (x4_1 : Int), v3 = .int .i64 x3_1 ∧ v4 = .int .i64 x4_1 ∧ Aside0 (quoinref20_Great.l0 kq l0 x3_1 x4_1 = some r) ∧ Aside0 (kq ≤ k) ∧ Aside0 (Below w.heap.size w w'))
 case atStart => exact ⟨(0), (0), (by first | rfl | (simp; done) | (simp [*]; done)), (by first | rfl | (simp; done) | (simp [*]; done)), H', ⟨Nat.le_refl _⟩, ⟨by repeat (first | (with_reducible first | exact HB.out | apply below_alloc | apply pw_below_drewN | apply below_drew1) | exact HB.out)⟩⟩
 case round =>
  clear H'
  obtain ⟨x3_1, x4_1, rfl, rfl, HA, HK1, HB⟩ := hrel
  cases gk with
  | zero => exact absurd HA.out (by simp [quoinref20_Great.l0])
  | succ k1 =>
   have H := HA.out
   clear HA
   simp only [quoinref20_Great.l0] at H
   by_cases c2 : x4_1 < (l0.length : Int)
   ·
    rw [if_pos c2] at H
    have c2b0 : decide (x4_1 < (l0.length : Int)) = true := decide_eq_true c2
    clear c2
    by_cases c3 : x4_1 < 2000
    ·
     rw [if_pos c3] at H
     have c3b0 : decide (x4_1 < 2000) = true := decide_eq_true c3
     clear c3
     by_cases c4 : 0 ≤ x4_1
     ·
      rw [if_pos c4] at H
      have c4b0 : decide (0 ≤ x4_1) = true := decide_eq_true c4
      clear c4
      obtain ⟨ji5, hji5⟩ : ∃ j_ : Int, (mn (((rd_T31 l0 x4_1).f1).length : Int) 100000) = j_ := ⟨_, rfl⟩
      replace H : (quoinref20_Great.l0 k1 l0 (wrap64 ((wrap64 ((wrap64 (x3_1 + (ji5))) + (mn (((rd_T31 l0 x4_1).f3).size : Int) 100000))) + (mn (((rd_T31 l0 x4_1).f4).size : Int) 100000))) (wrap64 (x4_1 + 1))) = some r := by first | (rw [hji5] at H; exact H) | (simp only [hji5] at H ⊢; exact H)
      have hji5_ : (if 100000 < (((rd_T31 l0 x4_1).f1).length : Int) then 100000 else (((rd_T31 l0 x4_1).f1).length : Int)) = ji5 := hji5
      obtain ⟨ji6, hji6⟩ : ∃ j_ : Int, (mn (((rd_T31 l0 x4_1).f3).size : Int) 100000) = j_ := ⟨_, rfl⟩
      replace H : (quoinref20_Great.l0 k1 l0 (wrap64 ((wrap64 ((wrap64 (x3_1 + (ji5))) + (ji6))) + (mn (((rd_T31 l0 x4_1).f4).size : Int) 100000))) (wrap64 (x4_1 + 1))) = some r := by first | (rw [hji6] at H; exact H) | (simp only [hji6] at H ⊢; exact H)
      have hji6_ : (if 100000 < (((rd_T31 l0 x4_1).f3).size : Int) then 100000 else (((rd_T31 l0 x4_1).f3).size : Int)) = ji6 := hji6
      obtain ⟨ji7, hji7⟩ : ∃ j_ : Int, (mn (((rd_T31 l0 x4_1).f4).size : Int) 100000) = j_ := ⟨_, rfl⟩
      replace H : (quoinref20_Great.l0 k1 l0 (wrap64 ((wrap64 ((wrap64 (x3_1 + (ji5))) + (ji6))) + (ji7))) (wrap64 (x4_1 + 1))) = some r := by first | (rw [hji7] at H; exact H) | (simp only [hji7] at H ⊢; exact H)
      have hji7_ : (if 100000 < (((rd_T31 l0 x4_1).f4).size : Int) then 100000 else (((rd_T31 l0 x4_1).f4).size : Int)) = ji7 := hji7
      have H' := Aside0.mk H
      clear H
      have p157 : 0 ≤ (x4_1 : Int) := of_decide_eq_true (by first | (with_reducible assumption) | assumption)
      have q157 : x4_1 < (l0.length : Int) := of_decide_eq_true (by first | (with_reducible assumption) | assumption)
      obtain ⟨ad157, A157_1, c157_1, e157, hx157_0, hx157_1, hx157_2, hx157_3, hx157_4, hx157_5, hx157_6, hl157_1, hi157_1⟩ := at_T31 HR0.out x4_1 p157 q157
      cases e157
      replace hx157_0 := (HB.out.cell (World.block_lt_of_cell? w _ hx157_0)).trans hx157_0
      replace hx157_1 := (HB.out.cell (World.block_lt_of_cell? w _ hx157_1)).trans hx157_1
      replace hx157_2 := (HB.out.cell (World.block_lt_of_cell? w _ hx157_2)).trans hx157_2
      replace hx157_3 := (HB.out.cell (World.block_lt_of_cell? w _ hx157_3)).trans hx157_3
      replace hx157_4 := (HB.out.cell (World.block_lt_of_cell? w _ hx157_4)).trans hx157_4
      replace hx157_5 := (HB.out.cell (World.block_lt_of_cell? w _ hx157_5)).trans hx157_5
      replace hx157_6 := (HB.out.cell (World.block_lt_of_cell? w _ hx157_6)).trans hx157_6
      have HR157_1 := Aside0.mk hi157_1
      have HC157_1 := Aside0.mk hl157_1
      clear hi157_1 hl157_1
      replace p157 := eq_true p157
      replace q157 := eq_true q157
      have p158 : 0 ≤ (x4_1 : Int) := of_decide_eq_true (by first | (with_reducible assumption) | assumption)
      have q158 : x4_1 < (l0.length : Int) := of_decide_eq_true (by first | (with_reducible assumption) | assumption)
      obtain ⟨ad158, A158_1, c158_1, e158, hx158_0, hx158_1, hx158_2, hx158_3, hx158_4, hx158_5, hx158_6, hl158_1, hi158_1⟩ := at_T31 HR0.out x4_1 p158 q158
      obtain rfl : ad157 = ad158 := (by injection e158)
      replace hx158_0 := (HB.out.cell (World.block_lt_of_cell? w _ hx158_0)).trans hx158_0
      replace hx158_1 := (HB.out.cell (World.block_lt_of_cell? w _ hx158_1)).trans hx158_1
      replace hx158_2 := (HB.out.cell (World.block_lt_of_cell? w _ hx158_2)).trans hx158_2
      replace hx158_3 := (HB.out.cell (World.block_lt_of_cell? w _ hx158_3)).trans hx158_3
      replace hx158_4 := (HB.out.cell (World.block_lt_of_cell? w _ hx158_4)).trans hx158_4
      replace hx158_5 := (HB.out.cell (World.block_lt_of_cell? w _ hx158_5)).trans hx158_5
      replace hx158_6 := (HB.out.cell (World.block_lt_of_cell? w _ hx158_6)).trans hx158_6
      have HR158_1 := Aside0.mk hi158_1
      have HC158_1 := Aside0.mk hl158_1
      clear hi158_1 hl158_1
      replace p158 := eq_true p158
      replace q158 := eq_true q158
      have ea_ := Option.some.inj (hx157_1.symm.trans hx158_1)
      injection ea_ with ea_ en_ ec_
      subst ea_
      subst ec_
      clear en_
      have p159 : 0 ≤ (x4_1 : Int) := of_decide_eq_true (by first | (with_reducible assumption) | assumption)
      have q159 : x4_1 < (l0.length : Int) := of_decide_eq_true (by first | (with_reducible assumption) | assumption)
      obtain ⟨ad159, A159_1, c159_1, e159, hx159_0, hx159_1, hx159_2, hx159_3, hx159_4, hx159_5, hx159_6, hl159_1, hi159_1⟩ := at_T31 HR0.out x4_1 p159 q159
      obtain rfl : ad157 = ad159 := (by injection e159)
      replace hx159_0 := (HB.out.cell (World.block_lt_of_cell? w _ hx159_0)).trans hx159_0
      replace hx159_1 := (HB.out.cell (World.block_lt_of_cell? w _ hx159_1)).trans hx159_1
      replace hx159_2 := (HB.out.cell (World.block_lt_of_cell? w _ hx159_2)).trans hx159_2
      replace hx159_3 := (HB.out.cell (World.block_lt_of_cell? w _ hx159_3)).trans hx159_3
      replace hx159_4 := (HB.out.cell (World.block_lt_of_cell? w _ hx159_4)).trans hx159_4
      replace hx159_5 := (HB.out.cell (World.block_lt_of_cell? w _ hx159_5)).trans hx159_5
      replace hx159_6 := (HB.out.cell (World.block_lt_of_cell? w _ hx159_6)).trans hx159_6
      have HR159_1 := Aside0.mk hi159_1
      have HC159_1 := Aside0.mk hl159_1
      clear hi159_1 hl159_1
      replace p159 := eq_true p159
      replace q159 := eq_true q159
      have ea_ := Option.some.inj (hx157_1.symm.trans hx159_1)
      injection ea_ with ea_ en_ ec_
      subst ea_
      subst ec_
      clear en_
      go_wp2
      repeat (go_quiet (fail); try go_wp2)
      go_roundg k1
      case measure => have := HK1.out; omega
      case rel => exact ⟨(wrap64 ((wrap64 ((wrap64 (x3_1 + (ji5))) + (ji6))) + (ji7))), (wrap64 (x4_1 + 1)), (by first | rfl | (simp; done) | (simp only [← hji5, ← hji6, ← hji7] <;> (first | rfl | simp)) | (simp [*]; done)), (by first | rfl | (simp; done) | (simp [*]; done)), H', ⟨by have := HK1.out; omega⟩, ⟨by repeat (first | (with_reducible first | exact HB.out | apply below_alloc | apply pw_below_drewN | apply below_drew1) | exact HB.out)⟩⟩
     ·
      rw [if_neg c4] at H
      exact absurd H (by simp)
    ·
     rw [if_neg c3] at H
     have c3b0 : decide (x4_1 < 2000) = false := decide_eq_false c3
     clear c3
     by_cases c8 : (l0.length : Int) > 300
     ·
      rw [if_pos c8] at H
      have c8b0 : decide (300 < (l0.length : Int)) = true := decide_eq_true c8
      have c8b1 : decide (300 < l0.length) = true := decide_eq_true (by omega)
      clear c8
      by_cases c9 : (l0.length : Int) ≤ 1024
      ·
       rw [if_pos c9] at H
       have c9b0 : decide ((l0.length : Int) ≤ 1024) = true := decide_eq_true c9
       have c9b1 : decide (l0.length ≤ 1024) = true := decide_eq_true (by omega)
       clear c9
       obtain rfl := Option.some.inj H
       go_wp2
       repeat (go_quiet (fail); try go_wp2)
       go_ret
       exact ⟨by first | rfl | (simp [errW_none, errW_some] <;> rfl) | (simp [*, errW_none, errW_some] <;> rfl), by repeat (first | (with_reducible first | exact HB.out | apply below_alloc | apply pw_below_drewN | apply below_drew1) | exact HB.out)⟩
      ·
       rw [if_neg c9] at H
       have c9b0 : decide ((l0.length : Int) ≤ 1024) = false := decide_eq_false c9
       have c9b1 : decide (l0.length ≤ 1024) = false := decide_eq_false (by omega)
       clear c9
       by_cases c10 : (l0.length : Int) > 1100
       ·
        rw [if_pos c10] at H
        have c10b0 : decide (1100 < (l0.length : Int)) = true := decide_eq_true c10
        have c10b1 : decide (1100 < l0.length) = true := decide_eq_true (by omega)
        clear c10
        obtain rfl := Option.some.inj H
        go_wp2
        repeat (go_quiet (fail); try go_wp2)
        go_ret
        exact ⟨by first | rfl | (simp [errW_none, errW_some] <;> rfl) | (simp [*, errW_none, errW_some] <;> rfl), by repeat (first | (with_reducible first | exact HB.out | apply below_alloc | apply pw_below_drewN | apply below_drew1) | exact HB.out)⟩
       ·
        rw [if_neg c10] at H
        have c10b0 : decide (1100 < (l0.length : Int)) = false := decide_eq_false c10
        have c10b1 : decide (1100 < l0.length) = false := decide_eq_false (by omega)
        clear c10
        obtain rfl := Option.some.inj H
        go_wp2
        repeat (go_quiet (fail); try go_wp2)
        go_ret
        exact ⟨by first | rfl | (simp [errW_none, errW_some] <;> rfl) | (simp [*, errW_none, errW_some] <;> rfl), by repeat (first | (with_reducible first | exact HB.out | apply below_alloc | apply pw_below_drewN | apply below_drew1) | exact HB.out)⟩
     ·
      rw [if_neg c8] at H
      have c8b0 : decide (300 < (l0.length : Int)) = false := decide_eq_false c8
      have c8b1 : decide (300 < l0.length) = false := decide_eq_false (by omega)
      clear c8
      by_cases c11 : (l0.length : Int) > 1100
      ·
       rw [if_pos c11] at H
       have c11b0 : decide (1100 < (l0.length : Int)) = true := decide_eq_true c11
       have c11b1 : decide (1100 < l0.length) = true := decide_eq_true (by omega)
       clear c11
       obtain rfl := Option.some.inj H
       go_wp2
       repeat (go_quiet (fail); try go_wp2)
       go_ret
       exact ⟨by first | rfl | (simp [errW_none, errW_some] <;> rfl) | (simp [*, errW_none, errW_some] <;> rfl), by repeat (first | (with_reducible first | exact HB.out | apply below_alloc | apply pw_below_drewN | apply below_drew1) | exact HB.out)⟩
      ·
       rw [if_neg c11] at H
       have c11b0 : decide (1100 < (l0.length : Int)) = false := decide_eq_false c11
       have c11b1 : decide (1100 < l0.length) = false := decide_eq_false (by omega)
       clear c11
       obtain rfl := Option.some.inj H
       go_wp2
       repeat (go_quiet (fail); try go_wp2)
       go_ret
       exact ⟨by first | rfl | (simp [errW_none, errW_some] <;> rfl) | (simp [*, errW_none, errW_some] <;> rfl), by repeat (first | (with_reducible first | exact HB.out | apply below_alloc | apply pw_below_drewN | apply below_drew1) | exact HB.out)⟩
   ·
    rw [if_neg c2] at H
    have c2b0 : decide (x4_1 < (l0.length : Int)) = false := decide_eq_false c2
    clear c2
    by_cases c12 : (l0.length : Int) > 300
    ·
     rw [if_pos c12] at H
     have c12b0 : decide (300 < (l0.length : Int)) = true := decide_eq_true c12
     have c12b1 : decide (300 < l0.length) = true := decide_eq_true (by omega)
     clear c12
     by_cases c13 : (l0.length : Int) ≤ 1024
     ·
      rw [if_pos c13] at H
      have c13b0 : decide ((l0.length : Int) ≤ 1024) = true := decide_eq_true c13
      have c13b1 : decide (l0.length ≤ 1024) = true := decide_eq_true (by omega)
      clear c13
      obtain rfl := Option.some.inj H
      go_wp2
      repeat (go_quiet (fail); try go_wp2)
      go_ret
      exact ⟨by first | rfl | (simp [errW_none, errW_some] <;> rfl) | (simp [*, errW_none, errW_some] <;> rfl), by repeat (first | (with_reducible first | exact HB.out | apply below_alloc | apply pw_below_drewN | apply below_drew1) | exact HB.out)⟩
     ·
      rw [if_neg c13] at H
      have c13b0 : decide ((l0.length : Int) ≤ 1024) = false := decide_eq_false c13
      have c13b1 : decide (l0.length ≤ 1024) = false := decide_eq_false (by omega)
      clear c13
      by_cases c14 : (l0.length : Int) > 1100
      ·
       rw [if_pos c14] at H
       have c14b0 : decide (1100 < (l0.length : Int)) = true := decide_eq_true c14
       have c14b1 : decide (1100 < l0.length) = true := decide_eq_true (by omega)
       clear c14
       obtain rfl := Option.some.inj H
       go_wp2
       repeat (go_quiet (fail); try go_wp2)
       go_ret
       exact ⟨by first | rfl | (simp [errW_none, errW_some] <;> rfl) | (simp [*, errW_none, errW_some] <;> rfl), by repeat (first | (with_reducible first | exact HB.out | apply below_alloc | apply pw_below_drewN | apply below_drew1) | exact HB.out)⟩
      ·
       rw [if_neg c14] at H
       have c14b0 : decide (1100 < (l0.length : Int)) = false := decide_eq_false c14
       have c14b1 : decide (1100 < l0.length) = false := decide_eq_false (by omega)
       clear c14
       obtain rfl := Option.some.inj H
       go_wp2
       repeat (go_quiet (fail); try go_wp2)
       go_ret
       exact ⟨by first | rfl | (simp [errW_none, errW_some] <;> rfl) | (simp [*, errW_none, errW_some] <;> rfl), by repeat (first | (with_reducible first | exact HB.out | apply below_alloc | apply pw_below_drewN | apply below_drew1) | exact HB.out)⟩
    ·
     rw [if_neg c12] at H
     have c12b0 : decide (300 < (l0.length : Int)) = false := decide_eq_false c12
     have c12b1 : decide (300 < l0.length) = false := decide_eq_false (by omega)
     clear c12
     by_cases c15 : (l0.length : Int) > 1100
     ·
      rw [if_pos c15] at H
      have c15b0 : decide (1100 < (l0.length : Int)) = true := decide_eq_true c15
      have c15b1 : decide (1100 < l0.length) = true := decide_eq_true (by omega)
      clear c15
      obtain rfl := Option.some.inj H
      go_wp2
      repeat (go_quiet (fail); try go_wp2)
      go_ret
      exact ⟨by first | rfl | (simp [errW_none, errW_some] <;> rfl) | (simp [*, errW_none, errW_some] <;> rfl), by repeat (first | (with_reducible first | exact HB.out | apply below_alloc | apply pw_below_drewN | apply below_drew1) | exact HB.out)⟩
     ·
      rw [if_neg c15] at H
      have c15b0 : decide (1100 < (l0.length : Int)) = false := decide_eq_false c15
      have c15b1 : decide (1100 < l0.length) = false := decide_eq_false (by omega)
      clear c15
      obtain rfl := Option.some.inj H
      go_wp2
      repeat (go_quiet (fail); try go_wp2)
      go_ret
      exact ⟨by first | rfl | (simp [errW_none, errW_some] <;> rfl) | (simp [*, errW_none, errW_some] <;> rfl), by repeat (first | (with_reducible first | exact HB.out | apply below_alloc | apply pw_below_drewN | apply below_drew1) | exact HB.out)⟩

/-! ### labels_Name: function 15 -/
def labels_Name.f (a0 : ByteArray) (a1 : Int) : Option (ByteArray × Int) := (labels_local.f a0).bind fun t160 => (if t160 = true then (if a1 < 0 then (some ((⟨#[]⟩ : ByteArray), 2)) else (if a1 > 1024 then (some ((⟨#[]⟩ : ByteArray), 2)) else ((labels_name.f a0 a1).bind fun t161 => (some (t161, 0))))) else (some ((⟨#[]⟩ : ByteArray), 3)))
set_option maxHeartbeats 8000000 in
set_option maxRecDepth 100000 in
theorem labels_Name.calls (a0 : ByteArray) (a1 : Int) (r1 : ByteArray) (r2 : Int) (w : World) (hT : Lib.TabIs Tryd.prog w "internal/strconv.uint64pow10" .u64 Lib.pow10Tab) (h : labels_Name.f a0 a1 = some (r1, r2)) :
  Calls Tryd.prog 15 #[.string a0, .int .i64 a1] w fun e w' => e = .returned (.tuple #[.string r1, .int .i64 r2]) ∧ Below w.heap.size w w' := by
 have HT := Aside0.mk hT
 clear hT
 have HB := Aside0.mk (Below.refl w.heap.size w)
 have H : ((labels_local.f a0).bind fun t160 => (if t160 = true then (if a1 < 0 then (some ((⟨#[]⟩ : ByteArray), 2)) else (if a1 > 1024 then (some ((⟨#[]⟩ : ByteArray), 2)) else ((labels_name.f a0 a1).bind fun t161 => (some (t161, 0))))) else (some ((⟨#[]⟩ : ByteArray), 3)))) = some (r1, r2) := h
 clear h
 replace H := Option.bind_eq_some_iff.mp H
 obtain ⟨t160, A30, H⟩ := H
 replace H : (if t160 = true then (if a1 < 0 then (some ((⟨#[]⟩ : ByteArray), 2)) else (if a1 > 1024 then (some ((⟨#[]⟩ : ByteArray), 2)) else ((labels_name.f a0 a1).bind fun t161 => (some (t161, 0))))) else (some ((⟨#[]⟩ : ByteArray), 3))) = some (r1, r2) := H
 have A3 := Aside0.mk A30
 clear A30
 by_cases c4 : t160 = true
 ·
  subst c4
  have H1 : (if a1 < 0 then (some ((⟨#[]⟩ : ByteArray), 2)) else (if a1 > 1024 then (some ((⟨#[]⟩ : ByteArray), 2)) else ((labels_name.f a0 a1).bind fun t161 => (some (t161, 0))))) = some (r1, r2) := by rw [if_pos rfl] at H; exact H
  clear H
  have H := H1
  clear H1
  by_cases c5 : a1 < 0
  ·
   rw [if_pos c5] at H
   have c5b0 : decide (a1 < 0) = true := decide_eq_true c5
   clear c5
   simp only [Option.some.injEq, Prod.mk.injEq] at H
   obtain ⟨rfl, rfl⟩ := H
   go_enter Tryd.func15, Tryd.ntmps15
   go_wp2_with (first | ((with_reducible refine gate_callee (f := 24) rfl ?_); refine goesL_ (some 7) rfl rfl Tryd.func24 (by kernel_rfl) rfl #[.string a0] rfl (by (try simp only [List.map_toArray, List.map_cons, List.map_nil]); first | done | rfl | (simp only [List.length_drop, List.length_take]; rfl)) ?_; (with_reducible refine (labels_local.calls a0 true _ A3.out).mono ?_); rintro e w6 ⟨rfl, hb⟩; refine ⟨_, rfl, ?_⟩; have n0_ := Aside0.mk (below_step (by repeat (first | (with_reducible first | exact HB.out | apply below_alloc | apply pw_below_drewN | apply below_drew1) | exact HB.out)) hb); clear HB; have HB := n0_; clear n0_; (try clear hb); (try clear hb2); (try clear hk); (try clear hi)))
   go_ret2
   exact ⟨by first | rfl | (simp [errW_none, errW_some] <;> rfl) | (simp [*, errW_none, errW_some] <;> rfl), by repeat (first | (with_reducible first | exact HB.out | apply below_alloc | apply pw_below_drewN | apply below_drew1) | exact HB.out)⟩
  ·
   rw [if_neg c5] at H
   have c5b0 : decide (a1 < 0) = false := decide_eq_false c5
   clear c5
   by_cases c7 : a1 > 1024
   ·
    rw [if_pos c7] at H
    have c7b0 : decide (1024 < a1) = true := decide_eq_true c7
    clear c7
    simp only [Option.some.injEq, Prod.mk.injEq] at H
    obtain ⟨rfl, rfl⟩ := H
    go_enter Tryd.func15, Tryd.ntmps15
    go_wp2_with (first | ((with_reducible refine gate_callee (f := 24) rfl ?_); refine goesL_ (some 7) rfl rfl Tryd.func24 (by kernel_rfl) rfl #[.string a0] rfl (by (try simp only [List.map_toArray, List.map_cons, List.map_nil]); first | done | rfl | (simp only [List.length_drop, List.length_take]; rfl)) ?_; (with_reducible refine (labels_local.calls a0 true _ A3.out).mono ?_); rintro e w8 ⟨rfl, hb⟩; refine ⟨_, rfl, ?_⟩; have n0_ := Aside0.mk (below_step (by repeat (first | (with_reducible first | exact HB.out | apply below_alloc | apply pw_below_drewN | apply below_drew1) | exact HB.out)) hb); clear HB; have HB := n0_; clear n0_; (try clear hb); (try clear hb2); (try clear hk); (try clear hi)))
    go_ret2
    exact ⟨by first | rfl | (simp [errW_none, errW_some] <;> rfl) | (simp [*, errW_none, errW_some] <;> rfl), by repeat (first | (with_reducible first | exact HB.out | apply below_alloc | apply pw_below_drewN | apply below_drew1) | exact HB.out)⟩
   ·
    rw [if_neg c7] at H
    have c7b0 : decide (1024 < a1) = false := decide_eq_false c7
    clear c7
    replace H := Option.bind_eq_some_iff.mp H
    obtain ⟨t161, A90, H⟩ := H
    replace H : (some (t161, 0)) = some (r1, r2) := H
    have A9 := Aside0.mk A90
    clear A90
    simp only [Option.some.injEq, Prod.mk.injEq] at H
    obtain ⟨rfl, rfl⟩ := H
    go_enter Tryd.func15, Tryd.ntmps15
    go_wp2_with (first | ((with_reducible refine gate_callee (f := 24) rfl ?_); refine goesL_ (some 7) rfl rfl Tryd.func24 (by kernel_rfl) rfl #[.string a0] rfl (by (try simp only [List.map_toArray, List.map_cons, List.map_nil]); first | done | rfl | (simp only [List.length_drop, List.length_take]; rfl)) ?_; (with_reducible refine (labels_local.calls a0 true _ A3.out).mono ?_); rintro e w10 ⟨rfl, hb⟩; refine ⟨_, rfl, ?_⟩; have n0_ := Aside0.mk (below_step (by repeat (first | (with_reducible first | exact HB.out | apply below_alloc | apply pw_below_drewN | apply below_drew1) | exact HB.out)) hb); clear HB; have HB := n0_; clear n0_; (try clear hb); (try clear hb2); (try clear hk); (try clear hi)) | ((with_reducible refine gate_callee (f := 21) rfl ?_); refine goesL_ (some 17) rfl rfl Tryd.func21 (by kernel_rfl) rfl #[.string a0, .int .i64 a1] rfl (by (try simp only [List.map_toArray, List.map_cons, List.map_nil]); first | done | rfl | (simp only [List.length_drop, List.length_take]; rfl)) ?_; (with_reducible refine (labels_name.calls a0 a1 t161 _ ?side1 A9.out).mono ?_); (case side1 => exact Lib.tabBelow_of_tabIs HT.out _ (by repeat (first | (with_reducible first | exact HB.out | apply below_alloc | apply pw_below_drewN | apply below_drew1) | exact HB.out))); rintro e w11 ⟨rfl, hb⟩; refine ⟨_, rfl, ?_⟩; have n0_ := Aside0.mk (below_step (by repeat (first | (with_reducible first | exact HB.out | apply below_alloc | apply pw_below_drewN | apply below_drew1) | exact HB.out)) hb); clear HB; have HB := n0_; clear n0_; (try clear hb); (try clear hb2); (try clear hk); (try clear hi)))
    go_ret2
    exact ⟨by first | rfl | (simp [errW_none, errW_some] <;> rfl) | (simp [*, errW_none, errW_some] <;> rfl), by repeat (first | (with_reducible first | exact HB.out | apply below_alloc | apply pw_below_drewN | apply below_drew1) | exact HB.out)⟩
 ·
  replace c4 := Bool.eq_false_iff.mpr c4
  (try subst c4)
  have H1 : (some ((⟨#[]⟩ : ByteArray), 3)) = some (r1, r2) := by first | (rw [if_neg (show ¬ (false = true) by decide)] at H; exact H) | exact absurd c4 (by decide)
  clear H
  have H := H1
  clear H1
  simp only [Option.some.injEq, Prod.mk.injEq] at H
  obtain ⟨rfl, rfl⟩ := H
  go_enter Tryd.func15, Tryd.ntmps15
  go_wp2_with (first | ((with_reducible refine gate_callee (f := 24) rfl ?_); refine goesL_ (some 7) rfl rfl Tryd.func24 (by kernel_rfl) rfl #[.string a0] rfl (by (try simp only [List.map_toArray, List.map_cons, List.map_nil]); first | done | rfl | (simp only [List.length_drop, List.length_take]; rfl)) ?_; (with_reducible refine (labels_local.calls a0 false _ A3.out).mono ?_); rintro e w12 ⟨rfl, hb⟩; refine ⟨_, rfl, ?_⟩; have n0_ := Aside0.mk (below_step (by repeat (first | (with_reducible first | exact HB.out | apply below_alloc | apply pw_below_drewN | apply below_drew1) | exact HB.out)) hb); clear HB; have HB := n0_; clear n0_; (try clear hb); (try clear hb2); (try clear hk); (try clear hi)))
  go_ret2
  exact ⟨by first | rfl | (simp [errW_none, errW_some] <;> rfl) | (simp [*, errW_none, errW_some] <;> rfl), by repeat (first | (with_reducible first | exact HB.out | apply below_alloc | apply pw_below_drewN | apply below_drew1) | exact HB.out)⟩

/-! ### quoinlaw21_LabelsKeeps: function 7 -/
def KeepsAlike (x y : S31) : Prop := x.f0 = y.f0 ∧ x.f1 = y.f1 ∧ x.f2 = y.f2 ∧ x.f5 = y.f5 ∧ x.f6 = y.f6 ∧ (x.f0 ≠ 6 → x.f0 ≠ 1 → x.f0 ≠ 3 → x.f3 = y.f3 ∧ x.f4 = y.f4)
def keeps_T : Bool × List (List Nat × List Nat) := (true, [([], []), ([], []), ([0, 1], [0, 1]), ([2], [2]), ([], []), ([], []), ([4, 5], [4, 5]), ([6], [6]), ([], []), ([], []), ([8, 3, 0, 1, 2, 3, 8, 9], [3, 8]), ([9, 7, 10, 0, 1, 2, 3, 4, 5, 6, 7, 8, 9, 10], [7, 9])])
def keeps_B : List Nat := [0, 0, 3, 7, 0, 0, 48, 112, 0, 0, 783, 2047]
theorem keeps_tab : rtab .any (opsOf Tryd.f7 18) = keeps_T := by kernel_rfl
theorem keeps_bits : waitsOk keeps_T.2 keeps_B = true := by kernel_rfl
set_option maxHeartbeats 40000000 in
set_option maxRecDepth 100000 in
theorem keeps_great (k : Nat) (A0 : Option Addr) (c0 : Nat) (l0 : List (S31)) (a1 : ByteArray) (a2 : Int) (a3 : ByteArray) (a4 : Int) (w : World) (hr0 : Kd.C k31 w A0 l0.length l0) (hc0 : l0.length ≤ c0) (hT : Lib.TabIs Tryd.prog w "internal/strconv.uint64pow10" .u64 Lib.pow10Tab) (gr : Bool) (hq : gr = true) (hg : quoinref20_Great.f k l0 = some gr) :
    Calls Tryd.prog 7 #[.slice A0 l0.length c0, .string a1, .int .i64 a2, .string a3, .int .i64 a4] w fun e w' => e = .returned (.bool true) ∧ Below w.heap.size w w' := by
  obtain rfl : gr = true := hq
  have HR0 := Aside0.mk hr0
  have HC0 := Aside0.mk hc0
  have HT := Aside0.mk hT
  have HG := Aside0.mk hg
  have HAL : Aside0 (quoinlaw21_alive.f = some true) := ⟨by decide +kernel⟩
  clear hr0 hc0 hT hg
  have HB := Aside0.mk (Below.refl w.heap.size w)
  go_enter Tryd.func7, Tryd.ntmps7
  go_wp2_with (first | (go_at_call 8; have hT1 := Lib.tabBelow_of_tabIs HT.out _ HB.out; (with_reducible refine (quoinlaw21_alive.calls true _ hT1 HAL.out).mono ?_); clear hT1; rintro e_ w1 ⟨rfl, hb⟩; have HB2 := Aside0.mk (below_step HB.out hb); clear HB; have HB := HB2; clear HB2 hb) | (go_at_call 9; (with_reducible refine (quoinref20_Great.calls k _ _ l0 _ _ (Kd.C_below HR0.out HB.out) HC0.out HG.out).mono ?_); rintro e_ w2 ⟨rfl, hb⟩; have HB2 := Aside0.mk (below_step HB.out hb); clear HB; have HB := HB2; clear HB2 hb))
  go_ret
  exact ⟨rfl, HB.out⟩
set_option maxHeartbeats 40000000 in
set_option maxRecDepth 100000 in
theorem keeps_long1 (k : Nat) (A0 : Option Addr) (c0 : Nat) (l0 : List (S31)) (a1 : ByteArray) (a2 : Int) (a3 : ByteArray) (a4 : Int) (w : World) (hr0 : Kd.C k31 w A0 l0.length l0) (hc0 : l0.length ≤ c0) (hT : Lib.TabIs Tryd.prog w "internal/strconv.uint64pow10" .u64 Lib.pow10Tab) (gr : Bool) (hq : gr = false) (hg : quoinref20_Great.f k l0 = some gr) (h1 : (1000 : Int) < (a1.size : Int)) :
    Calls Tryd.prog 7 #[.slice A0 l0.length c0, .string a1, .int .i64 a2, .string a3, .int .i64 a4] w fun e w' => e = .returned (.bool true) ∧ Below w.heap.size w w' := by
  obtain rfl : gr = false := hq
  have g1 : decide ((1000 : Int) < (a1.size : Int)) = true := decide_eq_true h1
  have g2 : decide (1000 < a1.size) = true := decide_eq_true (by omega)
  clear h1
  have HR0 := Aside0.mk hr0
  have HC0 := Aside0.mk hc0
  have HT := Aside0.mk hT
  have HG := Aside0.mk hg
  have HAL : Aside0 (quoinlaw21_alive.f = some true) := ⟨by decide +kernel⟩
  clear hr0 hc0 hT hg
  have HB := Aside0.mk (Below.refl w.heap.size w)
  go_enter Tryd.func7, Tryd.ntmps7
  go_wp2_with (first | (go_at_call 8; have hT1 := Lib.tabBelow_of_tabIs HT.out _ HB.out; (with_reducible refine (quoinlaw21_alive.calls true _ hT1 HAL.out).mono ?_); clear hT1; rintro e_ w1 ⟨rfl, hb⟩; have HB2 := Aside0.mk (below_step HB.out hb); clear HB; have HB := HB2; clear HB2 hb) | (go_at_call 9; (with_reducible refine (quoinref20_Great.calls k _ _ l0 _ _ (Kd.C_below HR0.out HB.out) HC0.out HG.out).mono ?_); rintro e_ w2 ⟨rfl, hb⟩; have HB2 := Aside0.mk (below_step HB.out hb); clear HB; have HB := HB2; clear HB2 hb))
  go_ret
  exact ⟨rfl, HB.out⟩
set_option maxHeartbeats 40000000 in
set_option maxRecDepth 100000 in
theorem keeps_long2 (k : Nat) (A0 : Option Addr) (c0 : Nat) (l0 : List (S31)) (a1 : ByteArray) (a2 : Int) (a3 : ByteArray) (a4 : Int) (w : World) (hr0 : Kd.C k31 w A0 l0.length l0) (hc0 : l0.length ≤ c0) (hT : Lib.TabIs Tryd.prog w "internal/strconv.uint64pow10" .u64 Lib.pow10Tab) (gr : Bool) (hq : gr = false) (hg : quoinref20_Great.f k l0 = some gr) (h1 : ¬ (1000 : Int) < (a1.size : Int)) (h3 : (1000 : Int) < (a3.size : Int)) :
    Calls Tryd.prog 7 #[.slice A0 l0.length c0, .string a1, .int .i64 a2, .string a3, .int .i64 a4] w fun e w' => e = .returned (.bool true) ∧ Below w.heap.size w w' := by
  obtain rfl : gr = false := hq
  have g1 : decide ((1000 : Int) < (a1.size : Int)) = false := decide_eq_false h1
  have g2 : decide (1000 < a1.size) = false := decide_eq_false (by omega)
  have g3 : decide ((1000 : Int) < (a3.size : Int)) = true := decide_eq_true h3
  have g4 : decide (1000 < a3.size) = true := decide_eq_true (by omega)
  clear h1 h3
  have HR0 := Aside0.mk hr0
  have HC0 := Aside0.mk hc0
  have HT := Aside0.mk hT
  have HG := Aside0.mk hg
  have HAL : Aside0 (quoinlaw21_alive.f = some true) := ⟨by decide +kernel⟩
  clear hr0 hc0 hT hg
  have HB := Aside0.mk (Below.refl w.heap.size w)
  go_enter Tryd.func7, Tryd.ntmps7
  go_wp2_with (first | (go_at_call 8; have hT1 := Lib.tabBelow_of_tabIs HT.out _ HB.out; (with_reducible refine (quoinlaw21_alive.calls true _ hT1 HAL.out).mono ?_); clear hT1; rintro e_ w1 ⟨rfl, hb⟩; have HB2 := Aside0.mk (below_step HB.out hb); clear HB; have HB := HB2; clear HB2 hb) | (go_at_call 9; (with_reducible refine (quoinref20_Great.calls k _ _ l0 _ _ (Kd.C_below HR0.out HB.out) HC0.out HG.out).mono ?_); rintro e_ w2 ⟨rfl, hb⟩; have HB2 := Aside0.mk (below_step HB.out hb); clear HB; have HB := HB2; clear HB2 hb))
  go_ret
  exact ⟨rfl, HB.out⟩
set_option maxHeartbeats 40000000 in
set_option maxRecDepth 100000 in
theorem keeps_none (k : Nat) (A0 : Option Addr) (c0 : Nat) (l0 : List (S31)) (a1 : ByteArray) (a2 : Int) (a3 : ByteArray) (a4 : Int) (w : World) (hr0 : Kd.C k31 w A0 l0.length l0) (hc0 : l0.length ≤ c0) (hT : Lib.TabIs Tryd.prog w "internal/strconv.uint64pow10" .u64 Lib.pow10Tab) (hg : quoinref20_Great.f k l0 = some false) (h1 : ¬ (1000 : Int) < (a1.size : Int)) (h3 : ¬ (1000 : Int) < (a3.size : Int)) (x1 : ByteArray) (e1 : Int) (x2 : ByteArray) (e2 : Int) (hx : labels_Name.f a1 a2 = some (x1, e1)) (hy : labels_Name.f a3 a4 = some (x2, e2)) (hw : (e1 ≠ 0 ∧ x1 = (⟨#[]⟩ : ByteArray)) ∨ (e1 = 0 ∧ e2 ≠ 0) ∨ (e1 = 0 ∧ e2 = 0 ∧ (a1.toList == a3.toList) = false ∧ (x1.toList == x2.toList) = false) ∨ (e1 = 0 ∧ e2 = 0 ∧ (a1.toList == a3.toList) = true ∧ (x1.toList == x2.toList) = (a2 == a4))) (mm : List (S31)) (at_ g_ : Int) (hm : labels_Rename.f l0 = some (mm, at_, g_)) (hl : mm.length = 0) (hat : 0 ≤ at_) (hge : g_ ≠ 0) :
    Calls Tryd.prog 7 #[.slice A0 l0.length c0, .string a1, .int .i64 a2, .string a3, .int .i64 a4] w fun e w' => e = .returned (.bool true) ∧ Below w.heap.size w w' := by
  have HR0 := Aside0.mk hr0
  have HC0 := Aside0.mk hc0
  have HT := Aside0.mk hT
  have HG := Aside0.mk hg
  have HAL : Aside0 (quoinlaw21_alive.f = some true) := ⟨by decide +kernel⟩
  clear hr0 hc0 hT hg
  have HB := Aside0.mk (Below.refl w.heap.size w)
  have g1 : decide ((1000 : Int) < (a1.size : Int)) = false := decide_eq_false h1
  have g2 : decide (1000 < a1.size) = false := decide_eq_false (by omega)
  have g3 : decide ((1000 : Int) < (a3.size : Int)) = false := decide_eq_false h3
  have g4 : decide (1000 < a3.size) = false := decide_eq_false (by omega)
  clear h1 h3
  have HX := Aside0.mk hx
  have HY := Aside0.mk hy
  have HW := Aside0.mk hw
  have HM := Aside0.mk hm
  clear hx hy hw hm
  have g5 : (g_ == 0) = false := beq_eq_false_iff_ne.2 hge
  have g6 : (g_ != 0) = true := bne_iff_ne.2 hge
  have g7 : decide (0 ≤ at_) = true := decide_eq_true hat
  obtain rfl := List.length_eq_zero_iff.1 hl
  clear hge hat hl
  go_enter Tryd.func7, Tryd.ntmps7
  go_upto_region 8 with (first | (go_at_call 8; have hT1 := Lib.tabBelow_of_tabIs HT.out _ HB.out; (with_reducible refine (quoinlaw21_alive.calls true _ hT1 HAL.out).mono ?_); clear hT1; rintro e_ w1 ⟨rfl, hb⟩; have HB2 := Aside0.mk (below_step HB.out hb); clear HB; have HB := HB2; clear HB2 hb) | (go_at_call 9; (with_reducible refine (quoinref20_Great.calls k _ _ l0 false _ (Kd.C_below HR0.out HB.out) HC0.out HG.out).mono ?_); rintro e_ w2 ⟨rfl, hb⟩; have HB2 := Aside0.mk (below_step HB.out hb); clear HB; have HB := HB2; clear HB2 hb) | (go_at_call 15; have hT1 := Lib.tabBelow_of_tabIs HT.out _ HB.out; (with_reducible refine (labels_Name.calls a1 a2 x1 e1 _ hT1 HX.out).mono ?_); clear hT1; rintro e_ w3 ⟨rfl, hb⟩; have HB2 := Aside0.mk (below_step HB.out hb); clear HB; have HB := HB2; clear HB2 hb) | (go_at_call 15; have hT1 := Lib.tabBelow_of_tabIs HT.out _ HB.out; (with_reducible refine (labels_Name.calls a3 a4 x2 e2 _ hT1 HY.out).mono ?_); clear hT1; rintro e_ w4 ⟨rfl, hb⟩; have HB2 := Aside0.mk (below_step HB.out hb); clear HB; have HB := HB2; clear HB2 hb))
  go_cut [81] (fun v81 wx => v81 = .bool false ∧ Aside0 (Below w.heap.size w wx))
  case first =>
    have hw := HW.out
    clear HW
    rcases hw with ⟨p, q⟩ | ⟨p, q⟩ | ⟨p, q, r, s⟩ | ⟨p, q, r, s⟩
    · have b1 : (e1 == 0) = false := beq_eq_false_iff_ne.2 p
      have b2 : (e1 != 0) = true := bne_iff_ne.2 p
      have b3 : (x1.toList == ([] : List UInt8)) = true := by rw [q, ByteArray.toList_eq]; rfl
      have b4 : (x1.toList != ([] : List UInt8)) = false := by rw [q, ByteArray.toList_eq]; rfl
      have b5 : x1.toList.isEmpty = true := by rw [q, ByteArray.toList_eq]; rfl
      clear p q
      go_wp2
      go_meet
      case rel => exact ⟨rfl, HB⟩
    · have b1 : (e1 == 0) = true := beq_iff_eq.2 p
      have b2 : (e1 != 0) = false := bne_eq_false_iff_eq.2 p
      have b3 : (e2 == 0) = false := beq_eq_false_iff_ne.2 q
      have b4 : (e2 != 0) = true := bne_iff_ne.2 q
      clear p q
      go_wp2
      go_meet
      case rel => exact ⟨rfl, HB⟩
    · have b1 : (e1 == 0) = true := beq_iff_eq.2 p
      have b2 : (e1 != 0) = false := bne_eq_false_iff_eq.2 p
      have b3 : (e2 == 0) = true := beq_iff_eq.2 q
      have b4 : (e2 != 0) = false := bne_eq_false_iff_eq.2 q
      clear p q
      go_wp2
      go_meet
      case rel => exact ⟨rfl, HB⟩
    · have b1 : (e1 == 0) = true := beq_iff_eq.2 p
      have b2 : (e1 != 0) = false := bne_eq_false_iff_eq.2 p
      have b3 : (e2 == 0) = true := beq_iff_eq.2 q
      have b4 : (e2 != 0) = false := bne_eq_false_iff_eq.2 q
      clear p q
      cases b5 : (a2 == a4) <;> rw [b5] at s
      all_goals
        go_wp2
        go_meet
        case rel => exact ⟨rfl, HB⟩
  case rest =>
  clear HB HW
  obtain ⟨rfl, HB⟩ := hcut
  go_wp2_with (first | (go_at_call 10; have hT1 := Lib.tabBelow_of_tabIs HT.out _ HB.out; (with_reducible refine (labels_Rename.calls _ _ l0 _ _ _ _ (Kd.C_below HR0.out HB.out) HC0.out hT1 HM.out).mono ?_); clear hT1; rintro e_ wz ⟨vm, rfl, ho, hb⟩; have HB2 := Aside0.mk (below_step HB.out hb); clear HB; have HB := HB2; clear HB2 hb; obtain ⟨Am, cm, em⟩ := Kd.S_slice ho; subst em; have HO := Aside0.mk (Kd.S_reads' ho); clear ho))
  go_ret
  exact ⟨rfl, HB.out⟩
set_option maxHeartbeats 40000000 in
set_option maxRecDepth 100000 in
theorem keeps_go (k : Nat) (A0 : Option Addr) (c0 : Nat) (l0 : List (S31)) (a1 : ByteArray) (a2 : Int) (a3 : ByteArray) (a4 : Int) (w : World) (hr0 : Kd.C k31 w A0 l0.length l0) (hc0 : l0.length ≤ c0) (hT : Lib.TabIs Tryd.prog w "internal/strconv.uint64pow10" .u64 Lib.pow10Tab) (hg : quoinref20_Great.f k l0 = some false) (h1 : ¬ (1000 : Int) < (a1.size : Int)) (h3 : ¬ (1000 : Int) < (a3.size : Int)) (x1 : ByteArray) (e1 : Int) (x2 : ByteArray) (e2 : Int) (hx : labels_Name.f a1 a2 = some (x1, e1)) (hy : labels_Name.f a3 a4 = some (x2, e2)) (hw : (e1 ≠ 0 ∧ x1 = (⟨#[]⟩ : ByteArray)) ∨ (e1 = 0 ∧ e2 ≠ 0) ∨ (e1 = 0 ∧ e2 = 0 ∧ (a1.toList == a3.toList) = false ∧ (x1.toList == x2.toList) = false) ∨ (e1 = 0 ∧ e2 = 0 ∧ (a1.toList == a3.toList) = true ∧ (x1.toList == x2.toList) = (a2 == a4))) (mm : List (S31)) (at_ g_ : Int) (hm : labels_Rename.f l0 = some (mm, at_, g_)) (hge : g_ = 0) (hat : at_ = 0) (hl : mm.length = l0.length) (hbig : l0.length ≤ 2000) (hmm : labels_Rename.f mm = some (mm, 0, 0)) (hal : ∀ i : Int, 0 ≤ i → i < (l0.length : Int) → KeepsAlike (rd_T31 l0 i) (rd_T31 mm i)) :
    Calls Tryd.prog 7 #[.slice A0 l0.length c0, .string a1, .int .i64 a2, .string a3, .int .i64 a4] w fun e w' => e = .returned (.bool true) ∧ Below w.heap.size w w' := by
  subst hge hat
  have HR0 := Aside0.mk hr0
  have HC0 := Aside0.mk hc0
  have HT := Aside0.mk hT
  have HG := Aside0.mk hg
  have HAL : Aside0 (quoinlaw21_alive.f = some true) := ⟨by decide +kernel⟩
  clear hr0 hc0 hT hg
  have HB := Aside0.mk (Below.refl w.heap.size w)
  have g1 : decide ((1000 : Int) < (a1.size : Int)) = false := decide_eq_false h1
  have g2 : decide (1000 < a1.size) = false := decide_eq_false (by omega)
  have g3 : decide ((1000 : Int) < (a3.size : Int)) = false := decide_eq_false h3
  have g4 : decide (1000 < a3.size) = false := decide_eq_false (by omega)
  clear h1 h3
  have HX := Aside0.mk hx
  have HY := Aside0.mk hy
  have HW := Aside0.mk hw
  have HM := Aside0.mk hm
  clear hx hy hw hm
  have HMM := Aside0.mk hmm
  have HLEN := Aside0.mk hl
  have HBIG := Aside0.mk hbig
  have HAL2 := Aside0.mk hal
  have l1b : ((mm.length : Int) == (l0.length : Int)) = true := beq_iff_eq.2 (by omega)
  have l2b : ((mm.length : Int) != (l0.length : Int)) = false := bne_eq_false_iff_eq.2 (by omega)
  have l3b : (mm.length == l0.length) = true := beq_iff_eq.2 hl
  clear hmm hl hbig hal
  go_enter Tryd.func7, Tryd.ntmps7
  go_upto_region 8 with (first | (go_at_call 8; have hT1 := Lib.tabBelow_of_tabIs HT.out _ HB.out; (with_reducible refine (quoinlaw21_alive.calls true _ hT1 HAL.out).mono ?_); clear hT1; rintro e_ w1 ⟨rfl, hb⟩; have HB2 := Aside0.mk (below_step HB.out hb); clear HB; have HB := HB2; clear HB2 hb) | (go_at_call 9; (with_reducible refine (quoinref20_Great.calls k _ _ l0 false _ (Kd.C_below HR0.out HB.out) HC0.out HG.out).mono ?_); rintro e_ w2 ⟨rfl, hb⟩; have HB2 := Aside0.mk (below_step HB.out hb); clear HB; have HB := HB2; clear HB2 hb) | (go_at_call 15; have hT1 := Lib.tabBelow_of_tabIs HT.out _ HB.out; (with_reducible refine (labels_Name.calls a1 a2 x1 e1 _ hT1 HX.out).mono ?_); clear hT1; rintro e_ w3 ⟨rfl, hb⟩; have HB2 := Aside0.mk (below_step HB.out hb); clear HB; have HB := HB2; clear HB2 hb) | (go_at_call 15; have hT1 := Lib.tabBelow_of_tabIs HT.out _ HB.out; (with_reducible refine (labels_Name.calls a3 a4 x2 e2 _ hT1 HY.out).mono ?_); clear hT1; rintro e_ w4 ⟨rfl, hb⟩; have HB2 := Aside0.mk (below_step HB.out hb); clear HB; have HB := HB2; clear HB2 hb))
  go_cut [81] (fun v81 wx => v81 = .bool false ∧ Aside0 (Below w.heap.size w wx))
  case first =>
    have hw := HW.out
    clear HW
    rcases hw with ⟨p, q⟩ | ⟨p, q⟩ | ⟨p, q, r, s⟩ | ⟨p, q, r, s⟩
    · have b1 : (e1 == 0) = false := beq_eq_false_iff_ne.2 p
      have b2 : (e1 != 0) = true := bne_iff_ne.2 p
      have b3 : (x1.toList == ([] : List UInt8)) = true := by rw [q, ByteArray.toList_eq]; rfl
      have b4 : (x1.toList != ([] : List UInt8)) = false := by rw [q, ByteArray.toList_eq]; rfl
      have b5 : x1.toList.isEmpty = true := by rw [q, ByteArray.toList_eq]; rfl
      clear p q
      go_wp2
      go_meet
      case rel => exact ⟨rfl, HB⟩
    · have b1 : (e1 == 0) = true := beq_iff_eq.2 p
      have b2 : (e1 != 0) = false := bne_eq_false_iff_eq.2 p
      have b3 : (e2 == 0) = false := beq_eq_false_iff_ne.2 q
      have b4 : (e2 != 0) = true := bne_iff_ne.2 q
      clear p q
      go_wp2
      go_meet
      case rel => exact ⟨rfl, HB⟩
    · have b1 : (e1 == 0) = true := beq_iff_eq.2 p
      have b2 : (e1 != 0) = false := bne_eq_false_iff_eq.2 p
      have b3 : (e2 == 0) = true := beq_iff_eq.2 q
      have b4 : (e2 != 0) = false := bne_eq_false_iff_eq.2 q
      clear p q
      go_wp2
      go_meet
      case rel => exact ⟨rfl, HB⟩
    · have b1 : (e1 == 0) = true := beq_iff_eq.2 p
      have b2 : (e1 != 0) = false := bne_eq_false_iff_eq.2 p
      have b3 : (e2 == 0) = true := beq_iff_eq.2 q
      have b4 : (e2 != 0) = false := bne_eq_false_iff_eq.2 q
      clear p q
      cases b5 : (a2 == a4) <;> rw [b5] at s
      all_goals
        go_wp2
        go_meet
        case rel => exact ⟨rfl, HB⟩
  case rest =>
  clear HB HW
  obtain ⟨rfl, HB⟩ := hcut
  go_upto_region 15 with (first | (go_at_call 10; have hT1 := Lib.tabBelow_of_tabIs HT.out _ HB.out; (with_reducible refine (labels_Rename.calls _ _ l0 _ _ _ _ (Kd.C_below HR0.out HB.out) HC0.out hT1 HM.out).mono ?_); clear hT1; rintro e_ wz ⟨vm, rfl, ho, hb⟩; have HB2 := Aside0.mk (below_step HB.out hb); clear HB; have HB := HB2; clear HB2 hb; obtain ⟨Am, cm, em⟩ := Kd.S_slice ho; subst em; have HO := Aside0.mk (Kd.S_reads' ho); clear ho))
  have HR0z := Aside0.mk (Kd.C_below HR0.out HB.out)
  have HR1 := Aside0.mk HO.out.2.2
  have HC1 := Aside0.mk HO.out.2.1
  have HBW := HB
  clear HB HO HR0
  have HR0 := HR0z
  clear HR0z
  have HB := Aside0.mk (Below.refl wz.heap.size wz)
  go_wp2
  go_loopg [19] (l0.length + 1) (fun kq v19 w' => ∃ (i : Nat), v19 = .int .i64 (i : Int) ∧ Aside0 (i + kq = l0.length + 1) ∧ Aside0 (Below wz.heap.size wz w'))
  case atStart => exact ⟨0, rfl, ⟨by omega⟩, HB⟩
  case round =>
    clear HB
    obtain ⟨i, rfl, HK, HB⟩ := hrel
    have hk := HK.out
    by_cases hi : i < l0.length
    · have c4b0 : decide ((i : Int) < (l0.length : Int)) = true := decide_eq_true (by omega)
      obtain ⟨x5_1, hx5⟩ : ∃ x5_1 : Int, x5_1 = (i : Int) := ⟨_, rfl⟩
      have c5b0 : decide (0 ≤ x5_1) = true := decide_eq_true (by omega)
      have c6b0 : decide (x5_1 < (mm.length : Int)) = true := decide_eq_true (by have := HLEN.out; omega)
      have hal := HAL2.out x5_1 (by omega) (by omega)
      have hwr : wrap64 (x5_1 + 1) = ((i + 1 : Nat) : Int) := by have := HBIG.out; unfold wrap64; omega
      rw [← hx5] at c4b0 ⊢
      have HWR := Aside0.mk hwr
      have HK2 := Aside0.mk (show i + 1 + (gk - 1) = l0.length + 1 by omega)
      have HGK := Aside0.mk (show 0 < gk by omega)
      clear hx5 hi hk hwr HK
      have HAX := Aside0.mk hal
      clear hal
      go_wp2
      have n0_ := Aside0.mk (below_drew1 HB.out)
      clear HB
      have HB := n0_
      clear n0_
      have p160 : 0 ≤ (x5_1 : Int) := of_decide_eq_true (by first | (with_reducible assumption) | assumption)
      have q160 : x5_1 < (l0.length : Int) := of_decide_eq_true (by first | (with_reducible assumption) | assumption)
      obtain ⟨ad160, A160_1, c160_1, e160, hx160_0, hx160_1, hx160_2, hx160_3, hx160_4, hx160_5, hx160_6, hl160_1, hi160_1⟩ := at_T31 HR0.out x5_1 p160 q160
      have hw160_6 := hx160_6
      have hw160_5 := hx160_5
      have hw160_4 := hx160_4
      have hw160_3 := hx160_3
      have hw160_2 := hx160_2
      have hw160_1 := hx160_1
      have hw160_0 := hx160_0
      cases e160
      replace hx160_0 := (HB.out.cell (World.block_lt_of_cell? wz _ hx160_0)).trans hx160_0
      replace hx160_1 := (HB.out.cell (World.block_lt_of_cell? wz _ hx160_1)).trans hx160_1
      replace hx160_2 := (HB.out.cell (World.block_lt_of_cell? wz _ hx160_2)).trans hx160_2
      replace hx160_3 := (HB.out.cell (World.block_lt_of_cell? wz _ hx160_3)).trans hx160_3
      replace hx160_4 := (HB.out.cell (World.block_lt_of_cell? wz _ hx160_4)).trans hx160_4
      replace hx160_5 := (HB.out.cell (World.block_lt_of_cell? wz _ hx160_5)).trans hx160_5
      replace hx160_6 := (HB.out.cell (World.block_lt_of_cell? wz _ hx160_6)).trans hx160_6
      have HR160_1 := Aside0.mk hi160_1
      have HC160_1 := Aside0.mk hl160_1
      clear hi160_1 hl160_1
      replace p160 := eq_true p160
      replace q160 := eq_true q160
      have p161 : 0 ≤ (x5_1 : Int) := of_decide_eq_true (by first | (with_reducible assumption) | assumption)
      have q161 : x5_1 < (mm.length : Int) := of_decide_eq_true (by first | (with_reducible assumption) | assumption)
      obtain ⟨ad161, A161_1, c161_1, e161, hx161_0, hx161_1, hx161_2, hx161_3, hx161_4, hx161_5, hx161_6, hl161_1, hi161_1⟩ := at_T31 HR1.out x5_1 p161 q161
      have hw161_6 := hx161_6
      have hw161_5 := hx161_5
      have hw161_4 := hx161_4
      have hw161_3 := hx161_3
      have hw161_2 := hx161_2
      have hw161_1 := hx161_1
      have hw161_0 := hx161_0
      cases e161
      replace hx161_0 := (HB.out.cell (World.block_lt_of_cell? wz _ hx161_0)).trans hx161_0
      replace hx161_1 := (HB.out.cell (World.block_lt_of_cell? wz _ hx161_1)).trans hx161_1
      replace hx161_2 := (HB.out.cell (World.block_lt_of_cell? wz _ hx161_2)).trans hx161_2
      replace hx161_3 := (HB.out.cell (World.block_lt_of_cell? wz _ hx161_3)).trans hx161_3
      replace hx161_4 := (HB.out.cell (World.block_lt_of_cell? wz _ hx161_4)).trans hx161_4
      replace hx161_5 := (HB.out.cell (World.block_lt_of_cell? wz _ hx161_5)).trans hx161_5
      replace hx161_6 := (HB.out.cell (World.block_lt_of_cell? wz _ hx161_6)).trans hx161_6
      have HR161_1 := Aside0.mk hi161_1
      have HC161_1 := Aside0.mk hl161_1
      clear hi161_1 hl161_1
      replace p161 := eq_true p161
      replace q161 := eq_true q161
      refine start_ (n := 12) (S := fun w' => w'.cell? (ad160.add ((x5_1).toNat * 7)) = some (.int .u8 ((rd_T31 l0 x5_1).f0)) ∧ w'.cell? ⟨(ad160.add ((x5_1).toNat * 7)).block, (ad160.add ((x5_1).toNat * 7)).off + 1, none⟩ = some (.slice A160_1 ((rd_T31 l0 x5_1).f1).length c160_1) ∧ w'.cell? ⟨(ad160.add ((x5_1).toNat * 7)).block, (ad160.add ((x5_1).toNat * 7)).off + 2, none⟩ = some (.int .u8 ((rd_T31 l0 x5_1).f2)) ∧ w'.cell? ⟨(ad160.add ((x5_1).toNat * 7)).block, (ad160.add ((x5_1).toNat * 7)).off + 3, none⟩ = some (.string ((rd_T31 l0 x5_1).f3)) ∧ w'.cell? ⟨(ad160.add ((x5_1).toNat * 7)).block, (ad160.add ((x5_1).toNat * 7)).off + 4, none⟩ = some (.string ((rd_T31 l0 x5_1).f4)) ∧ w'.cell? ⟨(ad160.add ((x5_1).toNat * 7)).block, (ad160.add ((x5_1).toNat * 7)).off + 5, none⟩ = some (.int .i64 ((rd_T31 l0 x5_1).f5)) ∧ w'.cell? ⟨(ad160.add ((x5_1).toNat * 7)).block, (ad160.add ((x5_1).toNat * 7)).off + 6, none⟩ = some (.int .i64 ((rd_T31 l0 x5_1).f6)) ∧ w'.cell? (ad161.add ((x5_1).toNat * 7)) = some (.int .u8 ((rd_T31 mm x5_1).f0)) ∧ w'.cell? ⟨(ad161.add ((x5_1).toNat * 7)).block, (ad161.add ((x5_1).toNat * 7)).off + 1, none⟩ = some (.slice A161_1 ((rd_T31 mm x5_1).f1).length c161_1) ∧ w'.cell? ⟨(ad161.add ((x5_1).toNat * 7)).block, (ad161.add ((x5_1).toNat * 7)).off + 2, none⟩ = some (.int .u8 ((rd_T31 mm x5_1).f2)) ∧ w'.cell? ⟨(ad161.add ((x5_1).toNat * 7)).block, (ad161.add ((x5_1).toNat * 7)).off + 3, none⟩ = some (.string ((rd_T31 mm x5_1).f3)) ∧ w'.cell? ⟨(ad161.add ((x5_1).toNat * 7)).block, (ad161.add ((x5_1).toNat * 7)).off + 4, none⟩ = some (.string ((rd_T31 mm x5_1).f4)) ∧ w'.cell? ⟨(ad161.add ((x5_1).toNat * 7)).block, (ad161.add ((x5_1).toNat * 7)).off + 5, none⟩ = some (.int .i64 ((rd_T31 mm x5_1).f5)) ∧ w'.cell? ⟨(ad161.add ((x5_1).toNat * 7)).block, (ad161.add ((x5_1).toNat * 7)).off + 6, none⟩ = some (.int .i64 ((rd_T31 mm x5_1).f6))) (ds := []) #[false, false, false, false, false, false, false, false, false, false, false, false] (by kernel_rfl) rfl rfl ⟨((HB.out.cell (World.block_lt_of_cell? wz _ hw160_0)).trans hw160_0), ((HB.out.cell (World.block_lt_of_cell? wz _ hw160_1)).trans hw160_1), ((HB.out.cell (World.block_lt_of_cell? wz _ hw160_2)).trans hw160_2), ((HB.out.cell (World.block_lt_of_cell? wz _ hw160_3)).trans hw160_3), ((HB.out.cell (World.block_lt_of_cell? wz _ hw160_4)).trans hw160_4), ((HB.out.cell (World.block_lt_of_cell? wz _ hw160_5)).trans hw160_5), ((HB.out.cell (World.block_lt_of_cell? wz _ hw160_6)).trans hw160_6), ((HB.out.cell (World.block_lt_of_cell? wz _ hw161_0)).trans hw161_0), ((HB.out.cell (World.block_lt_of_cell? wz _ hw161_1)).trans hw161_1), ((HB.out.cell (World.block_lt_of_cell? wz _ hw161_2)).trans hw161_2), ((HB.out.cell (World.block_lt_of_cell? wz _ hw161_3)).trans hw161_3), ((HB.out.cell (World.block_lt_of_cell? wz _ hw161_4)).trans hw161_4), ((HB.out.cell (World.block_lt_of_cell? wz _ hw161_5)).trans hw161_5), ((HB.out.cell (World.block_lt_of_cell? wz _ hw161_6)).trans hw161_6)⟩ (fun hHeld => ?_); refine with_tabW keeps_tab keeps_bits (fun HT_ HW_ => ?_)
      generalize wr.drew = w14 at HB HR160_1 HR161_1 hx160_0 hx160_1 hx160_2 hx160_3 hx160_4 hx160_5 hx160_6 hx161_0 hx161_1 hx161_2 hx161_3 hx161_4 hx161_5 hx161_6 hHeld ⊢
      refine pure_ (i := 0) (N := some 115) (v := ?_) (a' := ?_) #[true, false, false, false, false, false, false, false, false, false, false, false] rfl rfl (any_of HT_.out (by kernel_rfl)) (fun _ _ _ h => h) (Or.inl ⟨by rfl, ?_⟩) ?_ ?_
      rotate_left
      ·
       intro w'
       go_simp
       with_reducible rfl
      rotate_left
      ·
       simp only [Act.put, List.setIfInBounds_toArray, List.set_cons_zero, List.set_cons_succ, i64_w, i32_w, IntKind.wrap_u8, IntKind.wrap_u32]
       rfl
      refine pure_ (i := 1) (N := some 116) (v := ?_) (a' := ?_) #[true, true, false, false, false, false, false, false, false, false, false, false] rfl rfl (any_of HT_.out (by kernel_rfl)) (fun _ _ _ h => h) (Or.inl ⟨by rfl, ?_⟩) ?_ ?_
      rotate_left
      ·
       intro w'
       go_simp
       with_reducible rfl
      rotate_left
      ·
       simp only [Act.put, List.setIfInBounds_toArray, List.set_cons_zero, List.set_cons_succ, i64_w, i32_w, IntKind.wrap_u8, IntKind.wrap_u32]
       rfl
      refine pure_ (i := 2) (N := some 117) (v := ?_) (a' := ?_) #[true, true, true, false, false, false, false, false, false, false, false, false] rfl rfl (any_of HT_.out (by kernel_rfl)) (fun _ _ _ h => h) (Or.inl ⟨by rfl, ?_⟩) ?_ ?_
      rotate_left
      ·
       intro w'
       go_simp
       with_reducible rfl
      rotate_left
      ·
       simp only [Act.put, List.setIfInBounds_toArray, List.set_cons_zero, List.set_cons_succ, i64_w, i32_w, IntKind.wrap_u8, IntKind.wrap_u32]
       rfl
      refine pure_ (i := 4) (N := some 119) (v := ?_) (a' := ?_) #[true, true, true, false, true, false, false, false, false, false, false, false] rfl rfl (any_of HT_.out (by kernel_rfl)) (fun _ _ _ h => h) (Or.inl ⟨by rfl, ?_⟩) ?_ ?_
      rotate_left
      ·
       intro w'
       go_simp
       with_reducible rfl
      rotate_left
      ·
       simp only [Act.put, List.setIfInBounds_toArray, List.set_cons_zero, List.set_cons_succ, i64_w, i32_w, IntKind.wrap_u8, IntKind.wrap_u32]
       rfl
      refine pure_ (i := 5) (N := some 120) (v := ?_) (a' := ?_) #[true, true, true, false, true, true, false, false, false, false, false, false] rfl rfl (any_of HT_.out (by kernel_rfl)) (fun _ _ _ h => h) (Or.inl ⟨by rfl, ?_⟩) ?_ ?_
      rotate_left
      ·
       intro w'
       go_simp
       with_reducible rfl
      rotate_left
      ·
       simp only [Act.put, List.setIfInBounds_toArray, List.set_cons_zero, List.set_cons_succ, i64_w, i32_w, IntKind.wrap_u8, IntKind.wrap_u32]
       rfl
      refine pure_ (i := 6) (N := some 121) (v := ?_) (a' := ?_) #[true, true, true, false, true, true, true, false, false, false, false, false] rfl rfl (any_of HT_.out (by kernel_rfl)) (fun _ _ _ h => h) (Or.inl ⟨by rfl, ?_⟩) ?_ ?_
      rotate_left
      ·
       intro w'
       go_simp
       with_reducible rfl
      rotate_left
      ·
       simp only [Act.put, List.setIfInBounds_toArray, List.set_cons_zero, List.set_cons_succ, i64_w, i32_w, IntKind.wrap_u8, IntKind.wrap_u32]
       rfl
      refine take_ (i := 3) (N := some 118) (v := ?_) (a' := ?_) #[true, true, true, true, true, true, true, false, false, false, false, false] rfl rfl (take_ofW HT_.out HW_.out (by kernel_rfl)) (fun _ _ _ h => h) (Or.inl ⟨by rfl, ?_⟩) hHeld ?_ ?_
      rotate_left
      ·
       rintro w' ⟨s0, s1, s2, s3, s4, s5, s6, s7, s8, s9, s10, s11, s12, s13⟩
       go_simp
       with_reducible rfl
      rotate_left
      ·
       simp only [Act.put, List.setIfInBounds_toArray, List.set_cons_zero, List.set_cons_succ, i64_w, i32_w, IntKind.wrap_u8, IntKind.wrap_u32]
       rfl
      refine take_ (i := 7) (N := some 122) (v := ?_) (a' := ?_) #[true, true, true, true, true, true, true, true, false, false, false, false] rfl rfl (take_ofW HT_.out HW_.out (by kernel_rfl)) (fun _ _ _ h => h) (Or.inl ⟨by rfl, ?_⟩) hHeld ?_ ?_
      rotate_left
      ·
       rintro w' ⟨s0, s1, s2, s3, s4, s5, s6, s7, s8, s9, s10, s11, s12, s13⟩
       go_simp
       with_reducible rfl
      rotate_left
      ·
       simp only [Act.put, List.setIfInBounds_toArray, List.set_cons_zero, List.set_cons_succ, i64_w, i32_w, IntKind.wrap_u8, IntKind.wrap_u32]
       rfl
      refine join_ (σ := Nat × Nat) 2 #[true, true, true, true, true, true, true, true, true, true, false, false] (fun s_ => [(20, .pointer (some ⟨s_.1, 0, none⟩)), (21, .pointer (some ⟨s_.2, 0, none⟩))]) (fun s_ w' => (w'.cell? (ad160.add ((x5_1).toNat * 7)) = some (.int .u8 ((rd_T31 l0 x5_1).f0)) ∧ w'.cell? ⟨(ad160.add ((x5_1).toNat * 7)).block, (ad160.add ((x5_1).toNat * 7)).off + 1, none⟩ = some (.slice A160_1 ((rd_T31 l0 x5_1).f1).length c160_1) ∧ w'.cell? ⟨(ad160.add ((x5_1).toNat * 7)).block, (ad160.add ((x5_1).toNat * 7)).off + 2, none⟩ = some (.int .u8 ((rd_T31 l0 x5_1).f2)) ∧ w'.cell? ⟨(ad160.add ((x5_1).toNat * 7)).block, (ad160.add ((x5_1).toNat * 7)).off + 3, none⟩ = some (.string ((rd_T31 l0 x5_1).f3)) ∧ w'.cell? ⟨(ad160.add ((x5_1).toNat * 7)).block, (ad160.add ((x5_1).toNat * 7)).off + 4, none⟩ = some (.string ((rd_T31 l0 x5_1).f4)) ∧ w'.cell? ⟨(ad160.add ((x5_1).toNat * 7)).block, (ad160.add ((x5_1).toNat * 7)).off + 5, none⟩ = some (.int .i64 ((rd_T31 l0 x5_1).f5)) ∧ w'.cell? ⟨(ad160.add ((x5_1).toNat * 7)).block, (ad160.add ((x5_1).toNat * 7)).off + 6, none⟩ = some (.int .i64 ((rd_T31 l0 x5_1).f6)) ∧ w'.cell? (ad161.add ((x5_1).toNat * 7)) = some (.int .u8 ((rd_T31 mm x5_1).f0)) ∧ w'.cell? ⟨(ad161.add ((x5_1).toNat * 7)).block, (ad161.add ((x5_1).toNat * 7)).off + 1, none⟩ = some (.slice A161_1 ((rd_T31 mm x5_1).f1).length c161_1) ∧ w'.cell? ⟨(ad161.add ((x5_1).toNat * 7)).block, (ad161.add ((x5_1).toNat * 7)).off + 2, none⟩ = some (.int .u8 ((rd_T31 mm x5_1).f2)) ∧ w'.cell? ⟨(ad161.add ((x5_1).toNat * 7)).block, (ad161.add ((x5_1).toNat * 7)).off + 3, none⟩ = some (.string ((rd_T31 mm x5_1).f3)) ∧ w'.cell? ⟨(ad161.add ((x5_1).toNat * 7)).block, (ad161.add ((x5_1).toNat * 7)).off + 4, none⟩ = some (.string ((rd_T31 mm x5_1).f4)) ∧ w'.cell? ⟨(ad161.add ((x5_1).toNat * 7)).block, (ad161.add ((x5_1).toNat * 7)).off + 5, none⟩ = some (.int .i64 ((rd_T31 mm x5_1).f5)) ∧ w'.cell? ⟨(ad161.add ((x5_1).toNat * 7)).block, (ad161.add ((x5_1).toNat * 7)).off + 6, none⟩ = some (.int .i64 ((rd_T31 mm x5_1).f6))) ∧ (w'.heap[s_.1]? = some (.cells #[.int .u8 0, .slice none 0 0, .int .u8 0, .string (⟨#[]⟩ : ByteArray), .string (⟨#[]⟩ : ByteArray), .int .i64 0, .int .i64 0] 31 (0, 0))) ∧ (w'.heap[s_.2]? = some (.cells #[.int .u8 0, .slice none 0 0, .int .u8 0, .string (⟨#[]⟩ : ByteArray), .string (⟨#[]⟩ : ByteArray), .int .i64 0, .int .i64 0] 31 (0, 0))) ∧ (wz.heap.size ≤ s_.1) ∧ (wz.heap.size ≤ s_.1) ∧ (s_.2 ≠ s_.1) ∧ (s_.1 ≠ s_.2) ∧ (wz.heap.size ≤ s_.2) ∧ (wz.heap.size ≤ s_.2) ∧ (Below wz.heap.size wz w')) ?_ ?_
      rotate_left
      ·
       intro hCont
       refine two_ (i := 8) (j := 9) (Ni := some 20) (Nj := some 21) #[true, true, true, true, true, true, true, true, true, false, false, false] #[true, true, true, true, true, true, true, true, false, true, false, false] rfl rfl rfl rfl (two_of HT_.out (by kernel_rfl)) (by decide) (by decide) (fun K hK => ?_) (fun K hK => ?_)
       ·
        skip
        refine box_step ?hg (N := 20) ?hd (cs := #[.int .u8 0, .slice none 0 0, .int .u8 0, .string (⟨#[]⟩ : ByteArray), .string (⟨#[]⟩ : ByteArray), .int .i64 0, .int .i64 0]) (t := 31) ?hr ?_; (case hd => rfl); (case hg => rfl); (case hr => first | (go_simp; done) | (go_simp; rfl))
        intro gb162 hg w15 hbox hb
        have n0_ := Aside0.mk (below_step (by repeat (first | (with_reducible first | exact HB.out | apply below_alloc | apply pw_below_drewN | apply below_drew1) | exact HB.out)) hb)
        have n1_ := Aside0.mk (hbox)
        have n2_ := Aside0.mk ((by rw [hg]; exact (below_size (by repeat (first | (with_reducible first | exact HB.out | apply below_alloc | apply pw_below_drewN | apply below_drew1) | exact HB.out))) : wz.heap.size ≤ gb162))
        have n3_ := Aside0.mk ((by rw [hg]; exact (below_size (by repeat (first | (with_reducible first | exact HB.out | apply below_alloc | apply pw_below_drewN | apply below_drew1) | exact HB.out))) : wz.heap.size ≤ gb162))
        clear HB
        have HB := n0_
        have BK162 := n1_
        have GW162 := n2_
        have GE162 := n3_
        clear n0_ n1_ n2_ n3_
        clear hb hbox hg
        refine hK.out _ _ ⟨((HB.out.cell (World.block_lt_of_cell? wz _ hw160_0)).trans hw160_0), ((HB.out.cell (World.block_lt_of_cell? wz _ hw160_1)).trans hw160_1), ((HB.out.cell (World.block_lt_of_cell? wz _ hw160_2)).trans hw160_2), ((HB.out.cell (World.block_lt_of_cell? wz _ hw160_3)).trans hw160_3), ((HB.out.cell (World.block_lt_of_cell? wz _ hw160_4)).trans hw160_4), ((HB.out.cell (World.block_lt_of_cell? wz _ hw160_5)).trans hw160_5), ((HB.out.cell (World.block_lt_of_cell? wz _ hw160_6)).trans hw160_6), ((HB.out.cell (World.block_lt_of_cell? wz _ hw161_0)).trans hw161_0), ((HB.out.cell (World.block_lt_of_cell? wz _ hw161_1)).trans hw161_1), ((HB.out.cell (World.block_lt_of_cell? wz _ hw161_2)).trans hw161_2), ((HB.out.cell (World.block_lt_of_cell? wz _ hw161_3)).trans hw161_3), ((HB.out.cell (World.block_lt_of_cell? wz _ hw161_4)).trans hw161_4), ((HB.out.cell (World.block_lt_of_cell? wz _ hw161_5)).trans hw161_5), ((HB.out.cell (World.block_lt_of_cell? wz _ hw161_6)).trans hw161_6)⟩ (fun hHeld => ?_)
        clear hK K
        refine norm_ (a' := ?_) ?_ ?_
        rotate_left
        ·
         show Act.put _ (some 20) _ = _
         simp only [Act.put, List.setIfInBounds_toArray, List.set_cons_zero, List.set_cons_succ, i64_w, i32_w, IntKind.wrap_u8, IntKind.wrap_u32]
         rfl
        refine one_ (i := 9) (N := some 21) #[true, true, true, true, true, true, true, true, true, true, false, false] rfl rfl (one_of HT_.out (by kernel_rfl)) (by decide) (fun K hK => ?_)
        refine box_step ?hg (N := 21) ?hd (cs := #[.int .u8 0, .slice none 0 0, .int .u8 0, .string (⟨#[]⟩ : ByteArray), .string (⟨#[]⟩ : ByteArray), .int .i64 0, .int .i64 0]) (t := 31) ?hr ?_; (case hd => rfl); (case hg => rfl); (case hr => first | (go_simp; done) | (go_simp; rfl))
        intro gb163 hg w16 hbox hb
        have n0_ := Aside0.mk (blk_below (g := gb162) (o := .cells #[.int .u8 0, .slice none 0 0, .int .u8 0, .string (⟨#[]⟩ : ByteArray), .string (⟨#[]⟩ : ByteArray), .int .i64 0, .int .i64 0] 31 (0, 0)) (by (with_reducible repeat (first | refine blk_drewN ?_ _ | refine blk_drew ?_ | refine blk_alloc ?_ _)); exact BK162.out) hb)
        have n1_ := Aside0.mk (below_step (by repeat (first | (with_reducible first | exact HB.out | apply below_alloc | apply pw_below_drewN | apply below_drew1 | refine below_set ?_ GE162.out) | exact HB.out)) hb)
        have n2_ := Aside0.mk (hbox)
        have n3_ := Aside0.mk ((by rw [hg]; exact (below_size (by repeat (first | (with_reducible first | exact HB.out | apply below_alloc | apply pw_below_drewN | apply below_drew1 | refine below_set ?_ GE162.out) | exact HB.out))) : wz.heap.size ≤ gb163))
        have n4_ := Aside0.mk ((by rw [hg]; exact (below_size (by repeat (first | (with_reducible first | exact HB.out | apply below_alloc | apply pw_below_drewN | apply below_drew1 | refine below_set ?_ GE162.out) | exact HB.out))) : wz.heap.size ≤ gb163))
        have n5_ := Aside0.mk ((by rw [hg]; exact Nat.ne_of_lt (blk_lt (g := gb162) (o := .cells #[.int .u8 0, .slice none 0 0, .int .u8 0, .string (⟨#[]⟩ : ByteArray), .string (⟨#[]⟩ : ByteArray), .int .i64 0, .int .i64 0] 31 (0, 0)) (by (with_reducible repeat (first | refine blk_drewN ?_ _ | refine blk_drew ?_ | refine blk_alloc ?_ _)); exact BK162.out)) : gb162 ≠ gb163))
        have n6_ := Aside0.mk ((by rw [hg]; exact Nat.ne_of_gt (blk_lt (g := gb162) (o := .cells #[.int .u8 0, .slice none 0 0, .int .u8 0, .string (⟨#[]⟩ : ByteArray), .string (⟨#[]⟩ : ByteArray), .int .i64 0, .int .i64 0] 31 (0, 0)) (by (with_reducible repeat (first | refine blk_drewN ?_ _ | refine blk_drew ?_ | refine blk_alloc ?_ _)); exact BK162.out)) : gb163 ≠ gb162))
        clear BK162
        clear HB
        have BK162 := n0_
        have HB := n1_
        have BK163 := n2_
        have GW163 := n3_
        have GE163 := n4_
        have NB162_163 := n5_
        have NB163_162 := n6_
        clear n0_ n1_ n2_ n3_ n4_ n5_ n6_
        clear hb hbox hg
        refine hK.out _ _ ⟨((HB.out.cell (World.block_lt_of_cell? wz _ hw160_0)).trans hw160_0), ((HB.out.cell (World.block_lt_of_cell? wz _ hw160_1)).trans hw160_1), ((HB.out.cell (World.block_lt_of_cell? wz _ hw160_2)).trans hw160_2), ((HB.out.cell (World.block_lt_of_cell? wz _ hw160_3)).trans hw160_3), ((HB.out.cell (World.block_lt_of_cell? wz _ hw160_4)).trans hw160_4), ((HB.out.cell (World.block_lt_of_cell? wz _ hw160_5)).trans hw160_5), ((HB.out.cell (World.block_lt_of_cell? wz _ hw160_6)).trans hw160_6), ((HB.out.cell (World.block_lt_of_cell? wz _ hw161_0)).trans hw161_0), ((HB.out.cell (World.block_lt_of_cell? wz _ hw161_1)).trans hw161_1), ((HB.out.cell (World.block_lt_of_cell? wz _ hw161_2)).trans hw161_2), ((HB.out.cell (World.block_lt_of_cell? wz _ hw161_3)).trans hw161_3), ((HB.out.cell (World.block_lt_of_cell? wz _ hw161_4)).trans hw161_4), ((HB.out.cell (World.block_lt_of_cell? wz _ hw161_5)).trans hw161_5), ((HB.out.cell (World.block_lt_of_cell? wz _ hw161_6)).trans hw161_6)⟩ (fun hHeld => ?_)
        clear hK K
        refine norm_ (a' := ?_) ?_ ?_
        rotate_left
        ·
         show Act.put _ (some 21) _ = _
         simp only [Act.put, List.setIfInBounds_toArray, List.set_cons_zero, List.set_cons_succ, i64_w, i32_w, IntKind.wrap_u8, IntKind.wrap_u32]
         rfl
        exact norm_ (by simp only [putAll, Act.put, List.setIfInBounds_toArray, List.set_cons_zero, List.set_cons_succ]) (hCont (gb162, gb163) _ ⟨hHeld, (by (with_reducible repeat (first | refine blk_drewN ?_ _ | refine blk_drew ?_ | refine blk_alloc ?_ _)); exact BK162.out), (by (with_reducible repeat (first | refine blk_drewN ?_ _ | refine blk_drew ?_ | refine blk_alloc ?_ _)); exact BK163.out), GW162.out, GE162.out, NB163_162.out, NB162_163.out, GW163.out, GE163.out, (by repeat (first | (with_reducible first | exact HB.out | apply below_alloc | apply pw_below_drewN | apply below_drew1 | refine below_set ?_ GE162.out | refine below_set ?_ GE163.out) | exact HB.out))⟩)
       ·
        skip
        refine box_step ?hg (N := 21) ?hd (cs := #[.int .u8 0, .slice none 0 0, .int .u8 0, .string (⟨#[]⟩ : ByteArray), .string (⟨#[]⟩ : ByteArray), .int .i64 0, .int .i64 0]) (t := 31) ?hr ?_; (case hd => rfl); (case hg => rfl); (case hr => first | (go_simp; done) | (go_simp; rfl))
        intro gb163 hg w15 hbox hb
        have n0_ := Aside0.mk (below_step (by repeat (first | (with_reducible first | exact HB.out | apply below_alloc | apply pw_below_drewN | apply below_drew1) | exact HB.out)) hb)
        have n1_ := Aside0.mk (hbox)
        have n2_ := Aside0.mk ((by rw [hg]; exact (below_size (by repeat (first | (with_reducible first | exact HB.out | apply below_alloc | apply pw_below_drewN | apply below_drew1) | exact HB.out))) : wz.heap.size ≤ gb163))
        have n3_ := Aside0.mk ((by rw [hg]; exact (below_size (by repeat (first | (with_reducible first | exact HB.out | apply below_alloc | apply pw_below_drewN | apply below_drew1) | exact HB.out))) : wz.heap.size ≤ gb163))
        clear HB
        have HB := n0_
        have BK163 := n1_
        have GW163 := n2_
        have GE163 := n3_
        clear n0_ n1_ n2_ n3_
        clear hb hbox hg
        refine hK.out _ _ ⟨((HB.out.cell (World.block_lt_of_cell? wz _ hw160_0)).trans hw160_0), ((HB.out.cell (World.block_lt_of_cell? wz _ hw160_1)).trans hw160_1), ((HB.out.cell (World.block_lt_of_cell? wz _ hw160_2)).trans hw160_2), ((HB.out.cell (World.block_lt_of_cell? wz _ hw160_3)).trans hw160_3), ((HB.out.cell (World.block_lt_of_cell? wz _ hw160_4)).trans hw160_4), ((HB.out.cell (World.block_lt_of_cell? wz _ hw160_5)).trans hw160_5), ((HB.out.cell (World.block_lt_of_cell? wz _ hw160_6)).trans hw160_6), ((HB.out.cell (World.block_lt_of_cell? wz _ hw161_0)).trans hw161_0), ((HB.out.cell (World.block_lt_of_cell? wz _ hw161_1)).trans hw161_1), ((HB.out.cell (World.block_lt_of_cell? wz _ hw161_2)).trans hw161_2), ((HB.out.cell (World.block_lt_of_cell? wz _ hw161_3)).trans hw161_3), ((HB.out.cell (World.block_lt_of_cell? wz _ hw161_4)).trans hw161_4), ((HB.out.cell (World.block_lt_of_cell? wz _ hw161_5)).trans hw161_5), ((HB.out.cell (World.block_lt_of_cell? wz _ hw161_6)).trans hw161_6)⟩ (fun hHeld => ?_)
        clear hK K
        refine norm_ (a' := ?_) ?_ ?_
        rotate_left
        ·
         show Act.put _ (some 21) _ = _
         simp only [Act.put, List.setIfInBounds_toArray, List.set_cons_zero, List.set_cons_succ, i64_w, i32_w, IntKind.wrap_u8, IntKind.wrap_u32]
         rfl
        refine one_ (i := 8) (N := some 20) #[true, true, true, true, true, true, true, true, true, true, false, false] rfl rfl (one_of HT_.out (by kernel_rfl)) (by decide) (fun K hK => ?_)
        refine box_step ?hg (N := 20) ?hd (cs := #[.int .u8 0, .slice none 0 0, .int .u8 0, .string (⟨#[]⟩ : ByteArray), .string (⟨#[]⟩ : ByteArray), .int .i64 0, .int .i64 0]) (t := 31) ?hr ?_; (case hd => rfl); (case hg => rfl); (case hr => first | (go_simp; done) | (go_simp; rfl))
        intro gb162 hg w16 hbox hb
        have n0_ := Aside0.mk (blk_below (g := gb163) (o := .cells #[.int .u8 0, .slice none 0 0, .int .u8 0, .string (⟨#[]⟩ : ByteArray), .string (⟨#[]⟩ : ByteArray), .int .i64 0, .int .i64 0] 31 (0, 0)) (by (with_reducible repeat (first | refine blk_drewN ?_ _ | refine blk_drew ?_ | refine blk_alloc ?_ _)); exact BK163.out) hb)
        have n1_ := Aside0.mk (below_step (by repeat (first | (with_reducible first | exact HB.out | apply below_alloc | apply pw_below_drewN | apply below_drew1 | refine below_set ?_ GE163.out) | exact HB.out)) hb)
        have n2_ := Aside0.mk (hbox)
        have n3_ := Aside0.mk ((by rw [hg]; exact (below_size (by repeat (first | (with_reducible first | exact HB.out | apply below_alloc | apply pw_below_drewN | apply below_drew1 | refine below_set ?_ GE163.out) | exact HB.out))) : wz.heap.size ≤ gb162))
        have n4_ := Aside0.mk ((by rw [hg]; exact (below_size (by repeat (first | (with_reducible first | exact HB.out | apply below_alloc | apply pw_below_drewN | apply below_drew1 | refine below_set ?_ GE163.out) | exact HB.out))) : wz.heap.size ≤ gb162))
        have n5_ := Aside0.mk ((by rw [hg]; exact Nat.ne_of_lt (blk_lt (g := gb163) (o := .cells #[.int .u8 0, .slice none 0 0, .int .u8 0, .string (⟨#[]⟩ : ByteArray), .string (⟨#[]⟩ : ByteArray), .int .i64 0, .int .i64 0] 31 (0, 0)) (by (with_reducible repeat (first | refine blk_drewN ?_ _ | refine blk_drew ?_ | refine blk_alloc ?_ _)); exact BK163.out)) : gb163 ≠ gb162))
        have n6_ := Aside0.mk ((by rw [hg]; exact Nat.ne_of_gt (blk_lt (g := gb163) (o := .cells #[.int .u8 0, .slice none 0 0, .int .u8 0, .string (⟨#[]⟩ : ByteArray), .string (⟨#[]⟩ : ByteArray), .int .i64 0, .int .i64 0] 31 (0, 0)) (by (with_reducible repeat (first | refine blk_drewN ?_ _ | refine blk_drew ?_ | refine blk_alloc ?_ _)); exact BK163.out)) : gb162 ≠ gb163))
        clear BK163
        clear HB
        have BK163 := n0_
        have HB := n1_
        have BK162 := n2_
        have GW162 := n3_
        have GE162 := n4_
        have NB163_162 := n5_
        have NB162_163 := n6_
        clear n0_ n1_ n2_ n3_ n4_ n5_ n6_
        clear hb hbox hg
        refine hK.out _ _ ⟨((HB.out.cell (World.block_lt_of_cell? wz _ hw160_0)).trans hw160_0), ((HB.out.cell (World.block_lt_of_cell? wz _ hw160_1)).trans hw160_1), ((HB.out.cell (World.block_lt_of_cell? wz _ hw160_2)).trans hw160_2), ((HB.out.cell (World.block_lt_of_cell? wz _ hw160_3)).trans hw160_3), ((HB.out.cell (World.block_lt_of_cell? wz _ hw160_4)).trans hw160_4), ((HB.out.cell (World.block_lt_of_cell? wz _ hw160_5)).trans hw160_5), ((HB.out.cell (World.block_lt_of_cell? wz _ hw160_6)).trans hw160_6), ((HB.out.cell (World.block_lt_of_cell? wz _ hw161_0)).trans hw161_0), ((HB.out.cell (World.block_lt_of_cell? wz _ hw161_1)).trans hw161_1), ((HB.out.cell (World.block_lt_of_cell? wz _ hw161_2)).trans hw161_2), ((HB.out.cell (World.block_lt_of_cell? wz _ hw161_3)).trans hw161_3), ((HB.out.cell (World.block_lt_of_cell? wz _ hw161_4)).trans hw161_4), ((HB.out.cell (World.block_lt_of_cell? wz _ hw161_5)).trans hw161_5), ((HB.out.cell (World.block_lt_of_cell? wz _ hw161_6)).trans hw161_6)⟩ (fun hHeld => ?_)
        clear hK K
        refine norm_ (a' := ?_) ?_ ?_
        rotate_left
        ·
         show Act.put _ (some 20) _ = _
         simp only [Act.put, List.setIfInBounds_toArray, List.set_cons_zero, List.set_cons_succ, i64_w, i32_w, IntKind.wrap_u8, IntKind.wrap_u32]
         rfl
        exact norm_ (by simp only [putAll, Act.put, List.setIfInBounds_toArray, List.set_cons_zero, List.set_cons_succ]) (hCont (gb162, gb163) _ ⟨hHeld, (by (with_reducible repeat (first | refine blk_drewN ?_ _ | refine blk_drew ?_ | refine blk_alloc ?_ _)); exact BK162.out), (by (with_reducible repeat (first | refine blk_drewN ?_ _ | refine blk_drew ?_ | refine blk_alloc ?_ _)); exact BK163.out), GW162.out, GE162.out, NB163_162.out, NB162_163.out, GW163.out, GE163.out, (by repeat (first | (with_reducible first | exact HB.out | apply below_alloc | apply pw_below_drewN | apply below_drew1 | refine below_set ?_ GE163.out | refine below_set ?_ GE162.out) | exact HB.out))⟩)
      rintro ⟨gb162, gb163⟩ w17 ⟨hS_, h0_, h1_, h2_, h3_, h4_, h5_, h6_, h7_, h8_⟩
      have n0_ : Aside0 (w17.heap[gb162]? = some (.cells #[.int .u8 0, .slice none 0 0, .int .u8 0, .string (⟨#[]⟩ : ByteArray), .string (⟨#[]⟩ : ByteArray), .int .i64 0, .int .i64 0] 31 (0, 0))) := ⟨h0_⟩
      have n1_ : Aside0 (w17.heap[gb163]? = some (.cells #[.int .u8 0, .slice none 0 0, .int .u8 0, .string (⟨#[]⟩ : ByteArray), .string (⟨#[]⟩ : ByteArray), .int .i64 0, .int .i64 0] 31 (0, 0))) := ⟨h1_⟩
      have n2_ : Aside0 (wz.heap.size ≤ gb162) := ⟨h2_⟩
      have n3_ : Aside0 (wz.heap.size ≤ gb162) := ⟨h3_⟩
      have n4_ : Aside0 (gb163 ≠ gb162) := ⟨h4_⟩
      have n5_ : Aside0 (gb162 ≠ gb163) := ⟨h5_⟩
      have n6_ : Aside0 (wz.heap.size ≤ gb163) := ⟨h6_⟩
      have n7_ : Aside0 (wz.heap.size ≤ gb163) := ⟨h7_⟩
      have n8_ : Aside0 (Below wz.heap.size wz w17) := ⟨h8_⟩
      clear HB
      clear h0_ h1_ h2_ h3_ h4_ h5_ h6_ h7_ h8_
      have BK162 := n0_
      have BK163 := n1_
      have GW162 := n2_
      have GE162 := n3_
      have NB163_162 := n4_
      have NB162_163 := n5_
      have GW163 := n6_
      have GE163 := n7_
      have HB := n8_
      clear n0_ n1_ n2_ n3_ n4_ n5_ n6_ n7_ n8_
      have hHeld : w17.cell? (ad160.add ((x5_1).toNat * 7)) = some (.int .u8 ((rd_T31 l0 x5_1).f0)) ∧ w17.cell? ⟨(ad160.add ((x5_1).toNat * 7)).block, (ad160.add ((x5_1).toNat * 7)).off + 1, none⟩ = some (.slice A160_1 ((rd_T31 l0 x5_1).f1).length c160_1) ∧ w17.cell? ⟨(ad160.add ((x5_1).toNat * 7)).block, (ad160.add ((x5_1).toNat * 7)).off + 2, none⟩ = some (.int .u8 ((rd_T31 l0 x5_1).f2)) ∧ w17.cell? ⟨(ad160.add ((x5_1).toNat * 7)).block, (ad160.add ((x5_1).toNat * 7)).off + 3, none⟩ = some (.string ((rd_T31 l0 x5_1).f3)) ∧ w17.cell? ⟨(ad160.add ((x5_1).toNat * 7)).block, (ad160.add ((x5_1).toNat * 7)).off + 4, none⟩ = some (.string ((rd_T31 l0 x5_1).f4)) ∧ w17.cell? ⟨(ad160.add ((x5_1).toNat * 7)).block, (ad160.add ((x5_1).toNat * 7)).off + 5, none⟩ = some (.int .i64 ((rd_T31 l0 x5_1).f5)) ∧ w17.cell? ⟨(ad160.add ((x5_1).toNat * 7)).block, (ad160.add ((x5_1).toNat * 7)).off + 6, none⟩ = some (.int .i64 ((rd_T31 l0 x5_1).f6)) ∧ w17.cell? (ad161.add ((x5_1).toNat * 7)) = some (.int .u8 ((rd_T31 mm x5_1).f0)) ∧ w17.cell? ⟨(ad161.add ((x5_1).toNat * 7)).block, (ad161.add ((x5_1).toNat * 7)).off + 1, none⟩ = some (.slice A161_1 ((rd_T31 mm x5_1).f1).length c161_1) ∧ w17.cell? ⟨(ad161.add ((x5_1).toNat * 7)).block, (ad161.add ((x5_1).toNat * 7)).off + 2, none⟩ = some (.int .u8 ((rd_T31 mm x5_1).f2)) ∧ w17.cell? ⟨(ad161.add ((x5_1).toNat * 7)).block, (ad161.add ((x5_1).toNat * 7)).off + 3, none⟩ = some (.string ((rd_T31 mm x5_1).f3)) ∧ w17.cell? ⟨(ad161.add ((x5_1).toNat * 7)).block, (ad161.add ((x5_1).toNat * 7)).off + 4, none⟩ = some (.string ((rd_T31 mm x5_1).f4)) ∧ w17.cell? ⟨(ad161.add ((x5_1).toNat * 7)).block, (ad161.add ((x5_1).toNat * 7)).off + 5, none⟩ = some (.int .i64 ((rd_T31 mm x5_1).f5)) ∧ w17.cell? ⟨(ad161.add ((x5_1).toNat * 7)).block, (ad161.add ((x5_1).toNat * 7)).off + 6, none⟩ = some (.int .i64 ((rd_T31 mm x5_1).f6)) := hS_
      refine norm_ (a' := ?_) ?_ ?_
      rotate_left
      ·
       simp only [putAll, Act.put, List.setIfInBounds_toArray, List.set_cons_zero, List.set_cons_succ]
       rfl
      refine one_ (i := 10) (N := none) #[true, true, true, true, true, true, true, true, true, true, true, false] rfl rfl (one_of HT_.out (by kernel_rfl)) (by decide) (fun K hK => ?_)
      have hs18 : w17.cell? ⟨gb162, 0, none⟩ = some (.int .u8 0) := (blk_cell BK162.out 0).trans rfl
      have hfs18 := blk_frozen BK162.out 0
      have hns18_1 := NB163_162.out
      have hms18_1 := NB162_163.out
      have hs19 : w17.cell? ⟨gb162, 1, none⟩ = some (.slice none 0 0) := (blk_cell BK162.out 1).trans rfl
      have hfs19 := blk_frozen BK162.out 1
      have hns19_1 := NB163_162.out
      have hms19_1 := NB162_163.out
      have hs20 : w17.cell? ⟨gb162, 2, none⟩ = some (.int .u8 0) := (blk_cell BK162.out 2).trans rfl
      have hfs20 := blk_frozen BK162.out 2
      have hns20_1 := NB163_162.out
      have hms20_1 := NB162_163.out
      have hs21 : w17.cell? ⟨gb162, 3, none⟩ = some (.string (⟨#[]⟩ : ByteArray)) := (blk_cell BK162.out 3).trans rfl
      have hfs21 := blk_frozen BK162.out 3
      have hns21_1 := NB163_162.out
      have hms21_1 := NB162_163.out
      have hs22 : w17.cell? ⟨gb162, 4, none⟩ = some (.string (⟨#[]⟩ : ByteArray)) := (blk_cell BK162.out 4).trans rfl
      have hfs22 := blk_frozen BK162.out 4
      have hns22_1 := NB163_162.out
      have hms22_1 := NB162_163.out
      have hs23 : w17.cell? ⟨gb162, 5, none⟩ = some (.int .i64 0) := (blk_cell BK162.out 5).trans rfl
      have hfs23 := blk_frozen BK162.out 5
      have hns23_1 := NB163_162.out
      have hms23_1 := NB162_163.out
      have hs24 : w17.cell? ⟨gb162, 6, none⟩ = some (.int .i64 0) := (blk_cell BK162.out 6).trans rfl
      have hfs24 := blk_frozen BK162.out 6
      have hns24_1 := NB163_162.out
      have hms24_1 := NB162_163.out
      refine skip_ (w1 := ?_) (by rfl) rfl ?_ ?_
      rotate_left
      ·
       go_simp
       rfl
      clear hs18 hfs18 hns18_1 hms18_1 hs19 hfs19 hns19_1 hms19_1 hs20 hfs20 hns20_1 hms20_1 hs21 hfs21 hns21_1 hms21_1 hs22 hfs22 hns22_1 hms22_1 hs23 hfs23 hns23_1 hms23_1 hs24 hfs24 hns24_1 hms24_1
      have HBn := Aside0.mk (below_set (j := 6) (v := .int .i64 (rd_T31 l0 x5_1).f6) (below_set (j := 5) (v := .int .i64 (rd_T31 l0 x5_1).f5) (below_set (j := 4) (v := .string (rd_T31 l0 x5_1).f4) (below_set (j := 3) (v := .string (rd_T31 l0 x5_1).f3) (below_set (j := 2) (v := .int .u8 (rd_T31 l0 x5_1).f2) (below_set (j := 1) (v := .slice A160_1 (rd_T31 l0 x5_1).f1.length c160_1) (below_set (j := 0) (v := .int .u8 (rd_T31 l0 x5_1).f0) HB.out GE162.out) GE162.out) GE162.out) GE162.out) GE162.out) GE162.out) GE162.out)
      have BKme := Aside0.mk (blk_put (cs' := #[.int .u8 (rd_T31 l0 x5_1).f0, .slice A160_1 (rd_T31 l0 x5_1).f1.length c160_1, .int .u8 (rd_T31 l0 x5_1).f2, .string (rd_T31 l0 x5_1).f3, .string (rd_T31 l0 x5_1).f4, .int .i64 (rd_T31 l0 x5_1).f5, .int .i64 (rd_T31 l0 x5_1).f6]) (blk_put (cs' := #[.int .u8 (rd_T31 l0 x5_1).f0, .slice A160_1 (rd_T31 l0 x5_1).f1.length c160_1, .int .u8 (rd_T31 l0 x5_1).f2, .string (rd_T31 l0 x5_1).f3, .string (rd_T31 l0 x5_1).f4, .int .i64 (rd_T31 l0 x5_1).f5, .int .i64 0]) (blk_put (cs' := #[.int .u8 (rd_T31 l0 x5_1).f0, .slice A160_1 (rd_T31 l0 x5_1).f1.length c160_1, .int .u8 (rd_T31 l0 x5_1).f2, .string (rd_T31 l0 x5_1).f3, .string (rd_T31 l0 x5_1).f4, .int .i64 0, .int .i64 0]) (blk_put (cs' := #[.int .u8 (rd_T31 l0 x5_1).f0, .slice A160_1 (rd_T31 l0 x5_1).f1.length c160_1, .int .u8 (rd_T31 l0 x5_1).f2, .string (rd_T31 l0 x5_1).f3, .string (⟨#[]⟩ : ByteArray), .int .i64 0, .int .i64 0]) (blk_put (cs' := #[.int .u8 (rd_T31 l0 x5_1).f0, .slice A160_1 (rd_T31 l0 x5_1).f1.length c160_1, .int .u8 (rd_T31 l0 x5_1).f2, .string (⟨#[]⟩ : ByteArray), .string (⟨#[]⟩ : ByteArray), .int .i64 0, .int .i64 0]) (blk_put (cs' := #[.int .u8 (rd_T31 l0 x5_1).f0, .slice A160_1 (rd_T31 l0 x5_1).f1.length c160_1, .int .u8 0, .string (⟨#[]⟩ : ByteArray), .string (⟨#[]⟩ : ByteArray), .int .i64 0, .int .i64 0]) (blk_put (cs' := #[.int .u8 (rd_T31 l0 x5_1).f0, .slice none 0 0, .int .u8 0, .string (⟨#[]⟩ : ByteArray), .string (⟨#[]⟩ : ByteArray), .int .i64 0, .int .i64 0]) BK162.out 0 (.int .u8 (rd_T31 l0 x5_1).f0) rfl) 1 (.slice A160_1 (rd_T31 l0 x5_1).f1.length c160_1) rfl) 2 (.int .u8 (rd_T31 l0 x5_1).f2) rfl) 3 (.string (rd_T31 l0 x5_1).f3) rfl) 4 (.string (rd_T31 l0 x5_1).f4) rfl) 5 (.int .i64 (rd_T31 l0 x5_1).f5) rfl) 6 (.int .i64 (rd_T31 l0 x5_1).f6) rfl)
      have BKot := Aside0.mk (blk_far (p := ⟨gb162, 6, none⟩) (blk_far (p := ⟨gb162, 5, none⟩) (blk_far (p := ⟨gb162, 4, none⟩) (blk_far (p := ⟨gb162, 3, none⟩) (blk_far (p := ⟨gb162, 2, none⟩) (blk_far (p := ⟨gb162, 1, none⟩) (blk_far (p := ⟨gb162, 0, none⟩) BK163.out NB163_162.out (.int .u8 (rd_T31 l0 x5_1).f0)) NB163_162.out (.slice A160_1 (rd_T31 l0 x5_1).f1.length c160_1)) NB163_162.out (.int .u8 (rd_T31 l0 x5_1).f2)) NB163_162.out (.string (rd_T31 l0 x5_1).f3)) NB163_162.out (.string (rd_T31 l0 x5_1).f4)) NB163_162.out (.int .i64 (rd_T31 l0 x5_1).f5)) NB163_162.out (.int .i64 (rd_T31 l0 x5_1).f6))
      obtain ⟨wA, hwn⟩ : ∃ W, W = (((((((w17.setCell ⟨gb162, 0, none⟩ (.int .u8 (rd_T31 l0 x5_1).f0)).setCell ⟨gb162, 1, none⟩ (.slice A160_1 (rd_T31 l0 x5_1).f1.length c160_1)).setCell ⟨gb162, 2, none⟩ (.int .u8 (rd_T31 l0 x5_1).f2)).setCell ⟨gb162, 3, none⟩ (.string (rd_T31 l0 x5_1).f3)).setCell ⟨gb162, 4, none⟩ (.string (rd_T31 l0 x5_1).f4)).setCell ⟨gb162, 5, none⟩ (.int .i64 (rd_T31 l0 x5_1).f5)).setCell ⟨gb162, 6, none⟩ (.int .i64 (rd_T31 l0 x5_1).f6)) := ⟨_, rfl⟩
      rw [← hwn] at HBn BKme BKot ⊢
      clear hwn BK162 BK163 HB
      have BK162 := BKme
      have BK163 := BKot
      have HB := HBn
      clear BKme BKot HBn
      refine hK.out _ _ ⟨((HB.out.cell (World.block_lt_of_cell? wz _ hw160_0)).trans hw160_0), ((HB.out.cell (World.block_lt_of_cell? wz _ hw160_1)).trans hw160_1), ((HB.out.cell (World.block_lt_of_cell? wz _ hw160_2)).trans hw160_2), ((HB.out.cell (World.block_lt_of_cell? wz _ hw160_3)).trans hw160_3), ((HB.out.cell (World.block_lt_of_cell? wz _ hw160_4)).trans hw160_4), ((HB.out.cell (World.block_lt_of_cell? wz _ hw160_5)).trans hw160_5), ((HB.out.cell (World.block_lt_of_cell? wz _ hw160_6)).trans hw160_6), ((HB.out.cell (World.block_lt_of_cell? wz _ hw161_0)).trans hw161_0), ((HB.out.cell (World.block_lt_of_cell? wz _ hw161_1)).trans hw161_1), ((HB.out.cell (World.block_lt_of_cell? wz _ hw161_2)).trans hw161_2), ((HB.out.cell (World.block_lt_of_cell? wz _ hw161_3)).trans hw161_3), ((HB.out.cell (World.block_lt_of_cell? wz _ hw161_4)).trans hw161_4), ((HB.out.cell (World.block_lt_of_cell? wz _ hw161_5)).trans hw161_5), ((HB.out.cell (World.block_lt_of_cell? wz _ hw161_6)).trans hw161_6)⟩ (fun hHeld => ?_)
      clear hK K
      refine one_ (i := 11) (N := none) #[true, true, true, true, true, true, true, true, true, true, true, true] rfl rfl (one_of HT_.out (by kernel_rfl)) (by decide) (fun K hK => ?_)
      have hs25 : wA.cell? ⟨gb163, 0, none⟩ = some (.int .u8 0) := (blk_cell BK163.out 0).trans rfl
      have hfs25 := blk_frozen BK163.out 0
      have hns25_0 := NB162_163.out
      have hms25_0 := NB163_162.out
      have hs26 : wA.cell? ⟨gb163, 1, none⟩ = some (.slice none 0 0) := (blk_cell BK163.out 1).trans rfl
      have hfs26 := blk_frozen BK163.out 1
      have hns26_0 := NB162_163.out
      have hms26_0 := NB163_162.out
      have hs27 : wA.cell? ⟨gb163, 2, none⟩ = some (.int .u8 0) := (blk_cell BK163.out 2).trans rfl
      have hfs27 := blk_frozen BK163.out 2
      have hns27_0 := NB162_163.out
      have hms27_0 := NB163_162.out
      have hs28 : wA.cell? ⟨gb163, 3, none⟩ = some (.string (⟨#[]⟩ : ByteArray)) := (blk_cell BK163.out 3).trans rfl
      have hfs28 := blk_frozen BK163.out 3
      have hns28_0 := NB162_163.out
      have hms28_0 := NB163_162.out
      have hs29 : wA.cell? ⟨gb163, 4, none⟩ = some (.string (⟨#[]⟩ : ByteArray)) := (blk_cell BK163.out 4).trans rfl
      have hfs29 := blk_frozen BK163.out 4
      have hns29_0 := NB162_163.out
      have hms29_0 := NB163_162.out
      have hs30 : wA.cell? ⟨gb163, 5, none⟩ = some (.int .i64 0) := (blk_cell BK163.out 5).trans rfl
      have hfs30 := blk_frozen BK163.out 5
      have hns30_0 := NB162_163.out
      have hms30_0 := NB163_162.out
      have hs31 : wA.cell? ⟨gb163, 6, none⟩ = some (.int .i64 0) := (blk_cell BK163.out 6).trans rfl
      have hfs31 := blk_frozen BK163.out 6
      have hns31_0 := NB162_163.out
      have hms31_0 := NB163_162.out
      refine skip_ (w1 := ?_) (by rfl) rfl ?_ ?_
      rotate_left
      ·
       go_simp
       rfl
      clear hs25 hfs25 hns25_0 hms25_0 hs26 hfs26 hns26_0 hms26_0 hs27 hfs27 hns27_0 hms27_0 hs28 hfs28 hns28_0 hms28_0 hs29 hfs29 hns29_0 hms29_0 hs30 hfs30 hns30_0 hms30_0 hs31 hfs31 hns31_0 hms31_0
      have HBn := Aside0.mk (below_set (j := 6) (v := .int .i64 (rd_T31 mm x5_1).f6) (below_set (j := 5) (v := .int .i64 (rd_T31 mm x5_1).f5) (below_set (j := 4) (v := .string (rd_T31 mm x5_1).f4) (below_set (j := 3) (v := .string (rd_T31 mm x5_1).f3) (below_set (j := 2) (v := .int .u8 (rd_T31 mm x5_1).f2) (below_set (j := 1) (v := .slice A161_1 (rd_T31 mm x5_1).f1.length c161_1) (below_set (j := 0) (v := .int .u8 (rd_T31 mm x5_1).f0) HB.out GE163.out) GE163.out) GE163.out) GE163.out) GE163.out) GE163.out) GE163.out)
      have BKme := Aside0.mk (blk_put (cs' := #[.int .u8 (rd_T31 mm x5_1).f0, .slice A161_1 (rd_T31 mm x5_1).f1.length c161_1, .int .u8 (rd_T31 mm x5_1).f2, .string (rd_T31 mm x5_1).f3, .string (rd_T31 mm x5_1).f4, .int .i64 (rd_T31 mm x5_1).f5, .int .i64 (rd_T31 mm x5_1).f6]) (blk_put (cs' := #[.int .u8 (rd_T31 mm x5_1).f0, .slice A161_1 (rd_T31 mm x5_1).f1.length c161_1, .int .u8 (rd_T31 mm x5_1).f2, .string (rd_T31 mm x5_1).f3, .string (rd_T31 mm x5_1).f4, .int .i64 (rd_T31 mm x5_1).f5, .int .i64 0]) (blk_put (cs' := #[.int .u8 (rd_T31 mm x5_1).f0, .slice A161_1 (rd_T31 mm x5_1).f1.length c161_1, .int .u8 (rd_T31 mm x5_1).f2, .string (rd_T31 mm x5_1).f3, .string (rd_T31 mm x5_1).f4, .int .i64 0, .int .i64 0]) (blk_put (cs' := #[.int .u8 (rd_T31 mm x5_1).f0, .slice A161_1 (rd_T31 mm x5_1).f1.length c161_1, .int .u8 (rd_T31 mm x5_1).f2, .string (rd_T31 mm x5_1).f3, .string (⟨#[]⟩ : ByteArray), .int .i64 0, .int .i64 0]) (blk_put (cs' := #[.int .u8 (rd_T31 mm x5_1).f0, .slice A161_1 (rd_T31 mm x5_1).f1.length c161_1, .int .u8 (rd_T31 mm x5_1).f2, .string (⟨#[]⟩ : ByteArray), .string (⟨#[]⟩ : ByteArray), .int .i64 0, .int .i64 0]) (blk_put (cs' := #[.int .u8 (rd_T31 mm x5_1).f0, .slice A161_1 (rd_T31 mm x5_1).f1.length c161_1, .int .u8 0, .string (⟨#[]⟩ : ByteArray), .string (⟨#[]⟩ : ByteArray), .int .i64 0, .int .i64 0]) (blk_put (cs' := #[.int .u8 (rd_T31 mm x5_1).f0, .slice none 0 0, .int .u8 0, .string (⟨#[]⟩ : ByteArray), .string (⟨#[]⟩ : ByteArray), .int .i64 0, .int .i64 0]) BK163.out 0 (.int .u8 (rd_T31 mm x5_1).f0) rfl) 1 (.slice A161_1 (rd_T31 mm x5_1).f1.length c161_1) rfl) 2 (.int .u8 (rd_T31 mm x5_1).f2) rfl) 3 (.string (rd_T31 mm x5_1).f3) rfl) 4 (.string (rd_T31 mm x5_1).f4) rfl) 5 (.int .i64 (rd_T31 mm x5_1).f5) rfl) 6 (.int .i64 (rd_T31 mm x5_1).f6) rfl)
      have BKot := Aside0.mk (blk_far (p := ⟨gb163, 6, none⟩) (blk_far (p := ⟨gb163, 5, none⟩) (blk_far (p := ⟨gb163, 4, none⟩) (blk_far (p := ⟨gb163, 3, none⟩) (blk_far (p := ⟨gb163, 2, none⟩) (blk_far (p := ⟨gb163, 1, none⟩) (blk_far (p := ⟨gb163, 0, none⟩) BK162.out NB162_163.out (.int .u8 (rd_T31 mm x5_1).f0)) NB162_163.out (.slice A161_1 (rd_T31 mm x5_1).f1.length c161_1)) NB162_163.out (.int .u8 (rd_T31 mm x5_1).f2)) NB162_163.out (.string (rd_T31 mm x5_1).f3)) NB162_163.out (.string (rd_T31 mm x5_1).f4)) NB162_163.out (.int .i64 (rd_T31 mm x5_1).f5)) NB162_163.out (.int .i64 (rd_T31 mm x5_1).f6))
      obtain ⟨wB, hwn⟩ : ∃ W, W = (((((((wA.setCell ⟨gb163, 0, none⟩ (.int .u8 (rd_T31 mm x5_1).f0)).setCell ⟨gb163, 1, none⟩ (.slice A161_1 (rd_T31 mm x5_1).f1.length c161_1)).setCell ⟨gb163, 2, none⟩ (.int .u8 (rd_T31 mm x5_1).f2)).setCell ⟨gb163, 3, none⟩ (.string (rd_T31 mm x5_1).f3)).setCell ⟨gb163, 4, none⟩ (.string (rd_T31 mm x5_1).f4)).setCell ⟨gb163, 5, none⟩ (.int .i64 (rd_T31 mm x5_1).f5)).setCell ⟨gb163, 6, none⟩ (.int .i64 (rd_T31 mm x5_1).f6)) := ⟨_, rfl⟩
      rw [← hwn] at HBn BKme BKot ⊢
      clear hwn BK163 BK162 HB
      have BK163 := BKme
      have BK162 := BKot
      have HB := HBn
      clear BKme BKot HBn
      refine hK.out _ _ ⟨((HB.out.cell (World.block_lt_of_cell? wz _ hw160_0)).trans hw160_0), ((HB.out.cell (World.block_lt_of_cell? wz _ hw160_1)).trans hw160_1), ((HB.out.cell (World.block_lt_of_cell? wz _ hw160_2)).trans hw160_2), ((HB.out.cell (World.block_lt_of_cell? wz _ hw160_3)).trans hw160_3), ((HB.out.cell (World.block_lt_of_cell? wz _ hw160_4)).trans hw160_4), ((HB.out.cell (World.block_lt_of_cell? wz _ hw160_5)).trans hw160_5), ((HB.out.cell (World.block_lt_of_cell? wz _ hw160_6)).trans hw160_6), ((HB.out.cell (World.block_lt_of_cell? wz _ hw161_0)).trans hw161_0), ((HB.out.cell (World.block_lt_of_cell? wz _ hw161_1)).trans hw161_1), ((HB.out.cell (World.block_lt_of_cell? wz _ hw161_2)).trans hw161_2), ((HB.out.cell (World.block_lt_of_cell? wz _ hw161_3)).trans hw161_3), ((HB.out.cell (World.block_lt_of_cell? wz _ hw161_4)).trans hw161_4), ((HB.out.cell (World.block_lt_of_cell? wz _ hw161_5)).trans hw161_5), ((HB.out.cell (World.block_lt_of_cell? wz _ hw161_6)).trans hw161_6)⟩ (fun hHeld => ?_)
      clear hK K
      refine done_ (done_of HT_.out (by kernel_rfl)) ?_
      have hcz162_0 : wB.cell? ⟨gb162, 0, none⟩ = some (.int .u8 (rd_T31 l0 x5_1).f0) := (blk_cell BK162.out 0).trans rfl
      have hcz162_1 : wB.cell? ⟨gb162, 1, none⟩ = some (.slice A160_1 (rd_T31 l0 x5_1).f1.length c160_1) := (blk_cell BK162.out 1).trans rfl
      have hcz162_2 : wB.cell? ⟨gb162, 2, none⟩ = some (.int .u8 (rd_T31 l0 x5_1).f2) := (blk_cell BK162.out 2).trans rfl
      have hcz162_3 : wB.cell? ⟨gb162, 3, none⟩ = some (.string (rd_T31 l0 x5_1).f3) := (blk_cell BK162.out 3).trans rfl
      have hcz162_4 : wB.cell? ⟨gb162, 4, none⟩ = some (.string (rd_T31 l0 x5_1).f4) := (blk_cell BK162.out 4).trans rfl
      have hcz162_5 : wB.cell? ⟨gb162, 5, none⟩ = some (.int .i64 (rd_T31 l0 x5_1).f5) := (blk_cell BK162.out 5).trans rfl
      have hcz162_6 : wB.cell? ⟨gb162, 6, none⟩ = some (.int .i64 (rd_T31 l0 x5_1).f6) := (blk_cell BK162.out 6).trans rfl
      have hfz162_0 := blk_frozen BK162.out 0
      have hfz162_1 := blk_frozen BK162.out 1
      have hfz162_2 := blk_frozen BK162.out 2
      have hfz162_3 := blk_frozen BK162.out 3
      have hfz162_4 := blk_frozen BK162.out 4
      have hfz162_5 := blk_frozen BK162.out 5
      have hfz162_6 := blk_frozen BK162.out 6
      have hcz163_0 : wB.cell? ⟨gb163, 0, none⟩ = some (.int .u8 (rd_T31 mm x5_1).f0) := (blk_cell BK163.out 0).trans rfl
      have hcz163_1 : wB.cell? ⟨gb163, 1, none⟩ = some (.slice A161_1 (rd_T31 mm x5_1).f1.length c161_1) := (blk_cell BK163.out 1).trans rfl
      have hcz163_2 : wB.cell? ⟨gb163, 2, none⟩ = some (.int .u8 (rd_T31 mm x5_1).f2) := (blk_cell BK163.out 2).trans rfl
      have hcz163_3 : wB.cell? ⟨gb163, 3, none⟩ = some (.string (rd_T31 mm x5_1).f3) := (blk_cell BK163.out 3).trans rfl
      have hcz163_4 : wB.cell? ⟨gb163, 4, none⟩ = some (.string (rd_T31 mm x5_1).f4) := (blk_cell BK163.out 4).trans rfl
      have hcz163_5 : wB.cell? ⟨gb163, 5, none⟩ = some (.int .i64 (rd_T31 mm x5_1).f5) := (blk_cell BK163.out 5).trans rfl
      have hcz163_6 : wB.cell? ⟨gb163, 6, none⟩ = some (.int .i64 (rd_T31 mm x5_1).f6) := (blk_cell BK163.out 6).trans rfl
      have hfz163_0 := blk_frozen BK163.out 0
      have hfz163_1 := blk_frozen BK163.out 1
      have hfz163_2 := blk_frozen BK163.out 2
      have hfz163_3 := blk_frozen BK163.out 3
      have hfz163_4 := blk_frozen BK163.out 4
      have hfz163_5 := blk_frozen BK163.out 5
      have hfz163_6 := blk_frozen BK163.out 6
      obtain ⟨f0, f1, f2, f5, f6, f34⟩ := HAX.out
      clear HAX
      have c7b0 : (((rd_T31 l0 x5_1).f0) == ((rd_T31 mm x5_1).f0)) = true := beq_iff_eq.mpr f0
      have c7b1 : (((rd_T31 l0 x5_1).f0) != ((rd_T31 mm x5_1).f0)) = false := bne_eq_false_iff_eq.mpr f0
      have c8b0 : ((strOfNums ((rd_T31 l0 x5_1).f1)).toList == (strOfNums ((rd_T31 mm x5_1).f1)).toList) = true := by rw [f1]; exact beq_iff_eq.mpr rfl
      have c8b1 : ((strOfNums ((rd_T31 l0 x5_1).f1)).toList != (strOfNums ((rd_T31 mm x5_1).f1)).toList) = false := by rw [f1]; exact bne_eq_false_iff_eq.mpr rfl
      have c9b0 : (((rd_T31 l0 x5_1).f2) == ((rd_T31 mm x5_1).f2)) = true := beq_iff_eq.mpr f2
      have c9b1 : (((rd_T31 l0 x5_1).f2) != ((rd_T31 mm x5_1).f2)) = false := bne_eq_false_iff_eq.mpr f2
      have c12b0 : (((rd_T31 l0 x5_1).f5) == ((rd_T31 mm x5_1).f5)) = true := beq_iff_eq.mpr f5
      have c12b1 : (((rd_T31 l0 x5_1).f5) != ((rd_T31 mm x5_1).f5)) = false := bne_eq_false_iff_eq.mpr f5
      have c13b0 : (((rd_T31 l0 x5_1).f6) == ((rd_T31 mm x5_1).f6)) = true := beq_iff_eq.mpr f6
      have c13b1 : (((rd_T31 l0 x5_1).f6) != ((rd_T31 mm x5_1).f6)) = false := bne_eq_false_iff_eq.mpr f6
      clear f0 f1 f2 f5 f6
      have hcv35 := Kd.C_string (P := Tryd.prog) (A := A160_1) (c := c160_1) Tryd.underlying29 Tryd.underlying5 Tryd.underlying9 (Kd.C_below HR160_1.out HB.out)
      have hcv36 := fun n_ : Nat => Kd.C_string (P := Tryd.prog) (A := A160_1) (c := c160_1) Tryd.underlying29 Tryd.underlying5 Tryd.underlying9 (Kd.C_drewN (Kd.C_below HR160_1.out HB.out) n_)
      have hcv39 := Kd.C_string (P := Tryd.prog) (A := A161_1) (c := c161_1) Tryd.underlying29 Tryd.underlying5 Tryd.underlying9 (Kd.C_below HR161_1.out HB.out)
      have hcv40 := fun n_ : Nat => Kd.C_string (P := Tryd.prog) (A := A161_1) (c := c161_1) Tryd.underlying29 Tryd.underlying5 Tryd.underlying9 (Kd.C_drewN (Kd.C_below HR161_1.out HB.out) n_)
      by_cases k6 : (rd_T31 l0 x5_1).f0 = 6
      · clear f34
        have k6a : ((rd_T31 l0 x5_1).f0 == 6) = true := beq_iff_eq.2 k6; have k6b : ((rd_T31 l0 x5_1).f0 != 6) = false := bne_eq_false_iff_eq.2 k6
        clear k6
        go_wp2
        go_roundg (gk - 1)
        case measure => have := HGK.out; omega
        case rel => exact ⟨i + 1, by rw [HWR.out], HK2, ⟨(by repeat (first | (with_reducible first | exact HB.out | apply below_alloc | apply pw_below_drewN | apply below_drew1 | refine below_set ?_ GE162.out | refine below_set ?_ GE163.out) | exact HB.out))⟩⟩
      by_cases k1 : (rd_T31 l0 x5_1).f0 = 1
      · clear f34
        have k6a : ((rd_T31 l0 x5_1).f0 == 6) = false := beq_eq_false_iff_ne.2 k6; have k6b : ((rd_T31 l0 x5_1).f0 != 6) = true := bne_iff_ne.2 k6; have k1a : ((rd_T31 l0 x5_1).f0 == 1) = true := beq_iff_eq.2 k1; have k1b : ((rd_T31 l0 x5_1).f0 != 1) = false := bne_eq_false_iff_eq.2 k1
        clear k6 k1
        go_wp2
        go_roundg (gk - 1)
        case measure => have := HGK.out; omega
        case rel => exact ⟨i + 1, by rw [HWR.out], HK2, ⟨(by repeat (first | (with_reducible first | exact HB.out | apply below_alloc | apply pw_below_drewN | apply below_drew1 | refine below_set ?_ GE162.out | refine below_set ?_ GE163.out) | exact HB.out))⟩⟩
      by_cases k3 : (rd_T31 l0 x5_1).f0 = 3
      · clear f34
        have k6a : ((rd_T31 l0 x5_1).f0 == 6) = false := beq_eq_false_iff_ne.2 k6; have k6b : ((rd_T31 l0 x5_1).f0 != 6) = true := bne_iff_ne.2 k6; have k1a : ((rd_T31 l0 x5_1).f0 == 1) = false := beq_eq_false_iff_ne.2 k1; have k1b : ((rd_T31 l0 x5_1).f0 != 1) = true := bne_iff_ne.2 k1; have k3a : ((rd_T31 l0 x5_1).f0 == 3) = true := beq_iff_eq.2 k3; have k3b : ((rd_T31 l0 x5_1).f0 != 3) = false := bne_eq_false_iff_eq.2 k3
        clear k6 k1 k3
        go_wp2
        go_roundg (gk - 1)
        case measure => have := HGK.out; omega
        case rel => exact ⟨i + 1, by rw [HWR.out], HK2, ⟨(by repeat (first | (with_reducible first | exact HB.out | apply below_alloc | apply pw_below_drewN | apply below_drew1 | refine below_set ?_ GE162.out | refine below_set ?_ GE163.out) | exact HB.out))⟩⟩
      · obtain ⟨f3, f4⟩ := f34 k6 k1 k3
        have k6a : ((rd_T31 l0 x5_1).f0 == 6) = false := beq_eq_false_iff_ne.2 k6; have k6b : ((rd_T31 l0 x5_1).f0 != 6) = true := bne_iff_ne.2 k6; have k1a : ((rd_T31 l0 x5_1).f0 == 1) = false := beq_eq_false_iff_ne.2 k1; have k1b : ((rd_T31 l0 x5_1).f0 != 1) = true := bne_iff_ne.2 k1; have k3a : ((rd_T31 l0 x5_1).f0 == 3) = false := beq_eq_false_iff_ne.2 k3; have k3b : ((rd_T31 l0 x5_1).f0 != 3) = true := bne_iff_ne.2 k3
        have c10b0 : (((rd_T31 l0 x5_1).f3).toList == ((rd_T31 mm x5_1).f3).toList) = true := by rw [f3]; exact beq_iff_eq.mpr rfl
        have c10b1 : (((rd_T31 l0 x5_1).f3).toList != ((rd_T31 mm x5_1).f3).toList) = false := by rw [f3]; exact bne_eq_false_iff_eq.mpr rfl
        have c11b0 : (((rd_T31 l0 x5_1).f4).toList == ((rd_T31 mm x5_1).f4).toList) = true := by rw [f4]; exact beq_iff_eq.mpr rfl
        have c11b1 : (((rd_T31 l0 x5_1).f4).toList != ((rd_T31 mm x5_1).f4).toList) = false := by rw [f4]; exact bne_eq_false_iff_eq.mpr rfl
        clear k6 k1 k3 f3 f4 f34
        go_wp2
        go_roundg (gk - 1)
        case measure => have := HGK.out; omega
        case rel => exact ⟨i + 1, by rw [HWR.out], HK2, ⟨(by repeat (first | (with_reducible first | exact HB.out | apply below_alloc | apply pw_below_drewN | apply below_drew1 | refine below_set ?_ GE162.out | refine below_set ?_ GE163.out) | exact HB.out))⟩⟩
    · have c4b0 : decide ((i : Int) < (l0.length : Int)) = false := decide_eq_false (by omega)
      have c4b1 : decide (i < l0.length) = false := decide_eq_false (by omega)
      clear hi hk HK
      go_wp2_with (first | (go_at_call 10; have hT1 := Lib.tabBelow_of_tabIs HT.out _ (below_step HBW.out HB.out); (with_reducible refine (labels_Rename.calls _ _ mm mm 0 0 _ (Kd.C_below HR1.out HB.out) HC1.out hT1 HMM.out).mono ?_); clear hT1; rintro e_ wy ⟨vq, rfl, ho, hb⟩; have HB2 := Aside0.mk (below_step HB.out hb); clear HB; have HB := HB2; clear HB2 hb; obtain ⟨Aq, cq, eq_⟩ := Kd.S_slice ho; subst eq_; have HO := Aside0.mk (Kd.S_reads' ho); clear ho))
      have HRz := Aside0.mk (Kd.C_below HR1.out HB.out)
      have HR2 := Aside0.mk HO.out.2.2
      have HBY := HB
      clear HB HO HR0 HR1 HAL2 c4b0 c4b1
      have HB := Aside0.mk (Below.refl wy.heap.size wy)
      go_loopg [25] (mm.length + 1) (fun kq v25 w' => ∃ (j : Nat), v25 = .int .i64 (j : Int) ∧ Aside0 (j + kq = mm.length + 1) ∧ Aside0 (Below wy.heap.size wy w'))
      case atStart => exact ⟨0, rfl, ⟨by omega⟩, HB⟩
      case round =>
        clear HB
        obtain ⟨j, rfl, HK, HB⟩ := hrel
        have hk := HK.out
        by_cases hj : j < mm.length
        · have c4b0 : decide ((j : Int) < (mm.length : Int)) = true := decide_eq_true (by omega)
          obtain ⟨x6, hx6⟩ : ∃ x6 : Int, x6 = (j : Int) := ⟨_, rfl⟩
          have c5b0 : decide (0 ≤ x6) = true := decide_eq_true (by omega)
          have p0 : 0 ≤ x6 := by omega
          have p1 : x6 < (mm.length : Int) := by omega
          have hwr : wrap64 (x6 + 1) = ((j + 1 : Nat) : Int) := by have := HLEN.out; have := HBIG.out; unfold wrap64; omega
          rw [← hx6] at c4b0 ⊢
          have HWR := Aside0.mk hwr
          have HK2 := Aside0.mk (show j + 1 + (gk - 1) = mm.length + 1 by omega)
          have HGK := Aside0.mk (show 0 < gk by omega)
          clear hx6 hj hk hwr HK
          obtain ⟨adq, Aq1, cq1, eq1, hq0, hq1, hq2, hq3, hq4, hq5, hq6, hlq, hiq⟩ := at_T31 HR2.out x6 p0 p1
          obtain ⟨adm, Am1, cm1, em1, hm0, hm1, hm2, hm3, hm4, hm5, hm6, hlm, him⟩ := at_T31 HRz.out x6 p0 p1
          cases eq1
          cases em1
          replace hq3 := (HB.out.cell (World.block_lt_of_cell? wy _ hq3)).trans hq3
          replace hq4 := (HB.out.cell (World.block_lt_of_cell? wy _ hq4)).trans hq4
          replace hm3 := (HB.out.cell (World.block_lt_of_cell? wy _ hm3)).trans hm3
          replace hm4 := (HB.out.cell (World.block_lt_of_cell? wy _ hm4)).trans hm4
          clear hq0 hq1 hq2 hq5 hq6 hlq hiq hm0 hm1 hm2 hm5 hm6 hlm him
          replace p0 := eq_true p0
          replace p1 := eq_true p1
          go_wp2
          go_quiet (fail)
          go_wp2
          go_roundg (gk - 1)
          case measure => have := HGK.out; omega
          case rel => exact ⟨j + 1, by rw [HWR.out], HK2, ⟨pw_below_drewN HB.out _⟩⟩
        · have c4b0 : decide ((j : Int) < (mm.length : Int)) = false := decide_eq_false (by omega)
          have c4b1 : decide (j < mm.length) = false := decide_eq_false (by omega)
          clear hj hk HK
          go_wp2
          go_ret
          exact ⟨rfl, below_step (below_step HBW.out HBY.out) HB.out⟩
instance : DecidableEq S31 := fun x y => decidable_of_iff (x.f0 = y.f0 ∧ x.f1 = y.f1 ∧ x.f2 = y.f2 ∧ x.f3 = y.f3 ∧ x.f4 = y.f4 ∧ x.f5 = y.f5 ∧ x.f6 = y.f6) (by cases x; cases y; simp)
def keepsAlikeB (x y : S31) : Bool := decide (x.f0 = y.f0 ∧ x.f1 = y.f1 ∧ x.f2 = y.f2 ∧ x.f5 = y.f5 ∧ x.f6 = y.f6 ∧ (x.f0 = 6 ∨ x.f0 = 1 ∨ x.f0 = 3 ∨ (x.f3 = y.f3 ∧ x.f4 = y.f4)))
/-- What is asked of the law's inputs, told of what the functions that it calls answer. -/
def quoinlaw21_LabelsKeeps.ok (l0 : List (S31)) (a1 : ByteArray) (a2 : Int) (a3 : ByteArray) (a4 : Int) : Bool :=
  match labels_Name.f a1 a2, labels_Name.f a3 a4, labels_Rename.f l0 with
  | some (x1, e1), some (x2, e2), some (mm, at_, g_) => decide ((e1 ≠ 0 ∧ x1 = (⟨#[]⟩ : ByteArray)) ∨ (e1 = 0 ∧ e2 ≠ 0) ∨ (e1 = 0 ∧ e2 = 0 ∧ (a1.toList == a3.toList) = false ∧ (x1.toList == x2.toList) = false) ∨ (e1 = 0 ∧ e2 = 0 ∧ (a1.toList == a3.toList) = true ∧ (x1.toList == x2.toList) = (a2 == a4))) && (if g_ = 0 then decide (at_ = 0 ∧ mm.length = l0.length ∧ l0.length ≤ 2000 ∧ labels_Rename.f mm = some (mm, 0, 0)) && (List.range l0.length).all (fun i => keepsAlikeB (rd_T31 l0 (i : Int)) (rd_T31 mm (i : Int))) else decide (mm.length = 0 ∧ 0 ≤ at_))
  | _, _, _ => false
def quoinlaw21_LabelsKeeps.f (k : Nat) (l0 : List (S31)) (a1 : ByteArray) (a2 : Int) (a3 : ByteArray) (a4 : Int) : Option (Bool) :=
  (quoinref20_Great.f k l0).bind fun gr => if gr = true ∨ (1000 : Int) < (a1.size : Int) ∨ (1000 : Int) < (a3.size : Int) ∨ quoinlaw21_LabelsKeeps.ok l0 a1 a2 a3 a4 = true then some true else none
theorem quoinlaw21_LabelsKeeps.calls (k : Nat) (A0 : Option Addr) (c0 : Nat) (l0 : List (S31)) (a1 : ByteArray) (a2 : Int) (a3 : ByteArray) (a4 : Int) (r : Bool) (w : World) (hr0 : Kd.C k31 w A0 l0.length l0) (hc0 : l0.length ≤ c0) (hT : Lib.TabIs Tryd.prog w "internal/strconv.uint64pow10" .u64 Lib.pow10Tab) (h : quoinlaw21_LabelsKeeps.f k l0 a1 a2 a3 a4 = some r) :
    Calls Tryd.prog 7 #[.slice A0 l0.length c0, .string a1, .int .i64 a2, .string a3, .int .i64 a4] w fun e w' => e = .returned (.bool r) ∧ Below w.heap.size w w' := by
  unfold quoinlaw21_LabelsKeeps.f at h
  cases hg : quoinref20_Great.f k l0 with
  | none => rw [hg] at h; cases h
  | some gr =>
    rw [hg, Option.bind_some] at h
    split at h
    · rename_i hc
      obtain rfl := Option.some.inj h
      clear h
      cases gr with
      | true => exact keeps_great k A0 c0 l0 a1 a2 a3 a4 w hr0 hc0 hT true rfl hg
      | false =>
        by_cases h1 : (1000 : Int) < (a1.size : Int)
        · exact keeps_long1 k A0 c0 l0 a1 a2 a3 a4 w hr0 hc0 hT false rfl hg h1
        · by_cases h3 : (1000 : Int) < (a3.size : Int)
          · exact keeps_long2 k A0 c0 l0 a1 a2 a3 a4 w hr0 hc0 hT false rfl hg h1 h3
          · rcases hc with hc | hc | hc | hc
            · cases hc
            · exact absurd hc h1
            · exact absurd hc h3
            · unfold quoinlaw21_LabelsKeeps.ok at hc
              split at hc
              · rename_i x1 e1 x2 e2 mm at_ g_ hx hy hm
                obtain ⟨hw, hc⟩ := Bool.and_eq_true_iff.1 hc
                have hw := of_decide_eq_true hw
                by_cases hge : g_ = 0
                · rw [if_pos hge] at hc
                  obtain ⟨hc, hal⟩ := Bool.and_eq_true_iff.1 hc
                  obtain ⟨hat, hl, hbig, hmm⟩ := of_decide_eq_true hc
                  refine keeps_go k A0 c0 l0 a1 a2 a3 a4 w hr0 hc0 hT hg h1 h3 x1 e1 x2 e2 hx hy hw mm at_ g_ hm hge hat hl hbig hmm (fun i i0 i1 => ?_)
                  have hi := List.all_eq_true.1 hal i.toNat (List.mem_range.2 (by omega))
                  rw [show ((i.toNat : Nat) : Int) = i by omega] at hi
                  obtain ⟨p0, p1, p2, p5, p6, p34⟩ := of_decide_eq_true hi
                  exact ⟨p0, p1, p2, p5, p6, fun n6 n1 n3 => p34.elim (fun e => absurd e n6) (fun e => e.elim (fun e => absurd e n1) (fun e => e.elim (fun e => absurd e n3) id))⟩
                · rw [if_neg hge] at hc
                  have hc := of_decide_eq_true hc
                  exact keeps_none k A0 c0 l0 a1 a2 a3 a4 w hr0 hc0 hT hg h1 h3 x1 e1 x2 e2 hx hy hw mm at_ g_ hm hc.1 hc.2 hge
              · cases hc
    · cases h

/-- THE ONE PURE STATEMENT of quoinlaw21_LabelsKeeps: yours. -/
def quoinlaw21_LabelsKeeps.Pure : Prop := ∀ (l0 : List (S31)) (a1 : ByteArray) (a2 : Int) (a3 : ByteArray) (a4 : Int), (l0.length ≤ maxLen ∧ ∀ x0_ ∈ l0, wfS31 x0_) → a1.size ≤ 140737488351232 → (Lit.int .i64 a2).wf = true → a3.size ≤ 140737488351232 → (Lit.int .i64 a4).wf = true → ∃ k, quoinlaw21_LabelsKeeps.f k l0 a1 a2 a3 a4 = some true
theorem quoinlaw21_LabelsKeeps.walk (P : quoinlaw21_LabelsKeeps.Pure) (A0 : Option Addr) (c0 : Nat) (l0 : List (S31)) (a1 : ByteArray) (a2 : Int) (a3 : ByteArray) (a4 : Int) (w : World) (hr0 : Kd.C k31 w A0 l0.length l0) (hc0 : l0.length ≤ c0) (hT : Lib.TabIs Tryd.prog w "internal/strconv.uint64pow10" .u64 Lib.pow10Tab) (w0_0 : (l0.length ≤ maxLen ∧ ∀ x0_ ∈ l0, wfS31 x0_)) (w1_0 : a1.size ≤ 140737488351232) (w2_0 : (Lit.int .i64 a2).wf = true) (w3_0 : a3.size ≤ 140737488351232) (w4_0 : (Lit.int .i64 a4).wf = true) :
  Calls Tryd.prog 7 #[.slice A0 l0.length c0, .string a1, .int .i64 a2, .string a3, .int .i64 a4] w fun e w' => e = .returned (.bool true) ∧ Below w.heap.size w w' := by
 obtain ⟨k, h⟩ := P l0 a1 a2 a3 a4 w0_0 w1_0 w2_0 w3_0 w4_0
 refine (quoinlaw21_LabelsKeeps.calls k A0 c0 l0 a1 a2 a3 a4 true w hr0 hc0 hT h).mono ?_
 rintro e w' ⟨rfl, hd⟩
 exact ⟨rfl, hd⟩

end Go.Proofs.YtkjmbfabgkppaaaDoor.P
