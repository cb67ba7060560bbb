-- Written by pext.py, a program of this session, over the kit's print: a function's contract
import Derived.Test.YtdhkmaiidbomdaaPx0
import Derived.Test.YtdhkmaiidbomdaaPx1
import Derived.Test.YtdhkmaiidbomdaaPx2
namespace Go.Proofs.Ytdhkmaiidbomdaa.P
open Go.RowKit Go.Proofs.YtdhkmaiidbomdaaW.PrintWords Go.Proofs.YtdhkmaiidbomdaaW.PrintLast Go.Proofs.YtdhkmaiidbomdaaW.PrintMore
attribute [local go_sem] max2_int min2_int max_two min_two max_three min_three max_four min_four   -- for this text's walks alone
set_option linter.unusedVariables false
set_option linter.unusedSimpArgs false

/-! ### quoinref19_Same: function 6 -/
def quoinref19_Same.l0 : Nat → List (S27) → List (S27) → Int → Option (Bool)
 | 0, _, _, _ => none
 | k + 1, x0, x1, x5 => if x5 < (x0.length : Int) then (if 0 ≤ x5 then (if x5 < (x1.length : Int) then (if ((rd_T27 x0 x5).f0) = ((rd_T27 x1 x5).f0) then (if (strOfNums ((rd_T27 x0 x5).f1)).toList = (strOfNums ((rd_T27 x1 x5).f1)).toList then (if ((rd_T27 x0 x5).f2) = ((rd_T27 x1 x5).f2) then (if ((rd_T27 x0 x5).f3).toList = ((rd_T27 x1 x5).f3).toList then (if ((rd_T27 x0 x5).f4).toList = ((rd_T27 x1 x5).f4).toList then (if ((rd_T27 x0 x5).f5) = ((rd_T27 x1 x5).f5) then (if ((rd_T27 x0 x5).f6) = ((rd_T27 x1 x5).f6) then (quoinref19_Same.l0 k x0 x1 (wrap64 (x5 + 1))) else (some false)) else (some false)) else (some false)) else (some false)) else (some false)) else (some false)) else (some false)) else (none)) else (none)) else (some true)
def quoinref19_Same.f (k : Nat) (l0 : List (S27)) (l1 : List (S27)) : Option (Bool) := if (l0.length : Int) = (l1.length : Int) then (quoinref19_Same.l0 k l0 l1 0) else (some false)
theorem quoinref19_Same.mono_l : ∀ k, (∀ y0 y1 y2, LeO (quoinref19_Same.l0 k y0 y1 y2) (quoinref19_Same.l0 (k + 1) y0 y1 y2))
 | 0 => fun _ _ _ r h => by simp [quoinref19_Same.l0] at h
 | k + 1 => by
  have ih0 := quoinref19_Same.mono_l k
  ·
   intro y0 y1 y2
   unfold quoinref19_Same.l0
   repeat' first
   | (with_reducible exact ih0 _ _ _)
   | (with_reducible exact LeO.refl _)
   | (with_reducible exact LeO.none _)
   | (with_reducible refine LeO.ite ?_ ?_)
   | (with_reducible refine LeO.bind ?_ (fun _ => ?_))
   | exact ih0 _ _ _
   | exact LeO.none _
   | refine LeO.ite ?_ ?_
   | refine LeO.bind ?_ (fun _ => ?_)
theorem quoinref19_Same.mono : ∀ a0 a1 k, LeO (quoinref19_Same.f k a0 a1) (quoinref19_Same.f (k + 1) a0 a1) := by
 intro a0 a1 k
 have ih0 := quoinref19_Same.mono_l k
 unfold quoinref19_Same.f
 repeat' first
   | (with_reducible exact ih0 _ _ _)
   | (with_reducible exact LeO.refl _)
   | (with_reducible exact LeO.none _)
   | (with_reducible refine LeO.ite ?_ ?_)
   | (with_reducible refine LeO.bind ?_ (fun _ => ?_))
   | exact ih0 _ _ _
   | exact LeO.none _
   | refine LeO.ite ?_ ?_
   | refine LeO.bind ?_ (fun _ => ?_)
theorem quoinref19_Same.lexf : (Try.f6.body.bind (regOf 6)).map (Region.lexB .any) = some true := by kernel_rfl
set_option maxHeartbeats 8000000 in
set_option maxRecDepth 100000 in
theorem quoinref19_Same.calls (k : Nat) (A0 : Option Addr) (c0 : Nat) (l0 : List (S27)) (A1 : Option Addr) (c1 : Nat) (l1 : List (S27)) (r : Bool) (w : World) (hr0 : Kd.C k27 w A0 l0.length l0) (hc0 : l0.length ≤ c0) (hr1 : Kd.C k27 w A1 l1.length l1) (hc1 : l1.length ≤ c1) (h : quoinref19_Same.f k l0 l1 = some r) :
  Calls Try.prog 6 #[.slice A0 l0.length c0, .slice A1 l1.length c1] w fun e w' => e = .returned (.bool r) ∧ Drawn0 w w' := by
 have HR0 := Aside0.mk hr0
 have HC0 := Aside0.mk hc0
 clear hr0 hc0
 have HR1 := Aside0.mk hr1
 have HC1 := Aside0.mk hc1
 clear hr1 hc1
 have H : (if (l0.length : Int) = (l1.length : Int) then (quoinref19_Same.l0 k l0 l1 0) else (some false)) = some r := h
 clear h
 by_cases c3 : (l0.length : Int) = (l1.length : Int)
 ·
  rw [if_pos c3] at H
  have c3b0 : ((l0.length : Int) == (l1.length : Int)) = true := beq_iff_eq.mpr c3
  have c3b1 : ((l0.length : Int) != (l1.length : Int)) = false := bne_eq_false_iff_eq.mpr c3
  have c3b2 : (l0.length == l1.length) = true := by first | simpa using c3 | (simp at c3 ⊢; omega)
  clear c3
  have H' := Aside0.mk H
  clear H
  go_enter Try.func6, Try.ntmps6
  go_wp2
  repeat ((first | (refine wp_region_quiet_lit (by kernel_rfl) (by first | exact Option.some.inj quoinref19_Same.lexf | kernel_rfl) ?_; (repeat (go_big_quiet_step (fail))); refine wpQuiet_nil ?_; intro _ hw'; obtain ⟨nq, hw''⟩ := hw'; subst hw'') | (refine wp_region_quiet_lit (by kernel_rfl) (by first | exact Option.some.inj quoinref19_Same.lexf | kernel_rfl) ?_; (repeat (quiet_step (fail))); refine wpQuiet_nil ?_; intro _ hw'; obtain ⟨nq, hw''⟩ := hw'; subst hw'')); try go_wp2)
  go_loopg [5] k (fun kq v5 w' => ∃ (x5_1 : Int), v5 = .int .i64 x5_1 ∧ Aside0 (quoinref19_Same.l0 kq l0 l1 x5_1 = some r) ∧ Aside0 (kq ≤ k) ∧ Drawn0 w w')
  case atStart => exact ⟨(0), (by first | rfl | (simp; done) | (simp [*]; done)), H', ⟨Nat.le_refl _⟩, by repeat (first | exact Drawn0.refl _ | apply Drawn0.step)⟩
  case round =>
   clear H'
   try clear c1
   try clear p2
   try clear c3
   try clear c3b0
   try clear c3b1
   try clear c3b2
   obtain ⟨x5_1, rfl, HA, HK1, ⟨m1, rfl⟩⟩ := hrel
   cases gk with
   | zero => exact absurd HA.out (by simp [quoinref19_Same.l0])
   | succ k1 =>
    have H := HA.out
    clear HA
    simp only [quoinref19_Same.l0] at H
    by_cases c4 : x5_1 < (l0.length : Int)
    ·
     rw [if_pos c4] at H
     have c4b0 : decide (x5_1 < (l0.length : Int)) = true := decide_eq_true c4
     clear c4
     by_cases c5 : 0 ≤ x5_1
     ·
      rw [if_pos c5] at H
      have c5b0 : decide (0 ≤ x5_1) = true := decide_eq_true c5
      clear c5
      by_cases c6 : x5_1 < (l1.length : Int)
      ·
       rw [if_pos c6] at H
       have c6b0 : decide (x5_1 < (l1.length : Int)) = true := decide_eq_true c6
       clear c6
       by_cases c7 : ((rd_T27 l0 x5_1).f0) = ((rd_T27 l1 x5_1).f0)
       ·
        rw [if_pos c7] at H
        have c7b0 : (((rd_T27 l0 x5_1).f0) == ((rd_T27 l1 x5_1).f0)) = true := beq_iff_eq.mpr c7
        have c7b1 : (((rd_T27 l0 x5_1).f0) != ((rd_T27 l1 x5_1).f0)) = false := bne_eq_false_iff_eq.mpr c7
        clear c7
        by_cases c10 : (strOfNums ((rd_T27 l0 x5_1).f1)).toList = (strOfNums ((rd_T27 l1 x5_1).f1)).toList
        ·
         rw [if_pos c10] at H
         have c10b0 : ((strOfNums ((rd_T27 l0 x5_1).f1)).toList == (strOfNums ((rd_T27 l1 x5_1).f1)).toList) = true := beq_iff_eq.mpr c10
         have c10b1 : ((strOfNums ((rd_T27 l0 x5_1).f1)).toList != (strOfNums ((rd_T27 l1 x5_1).f1)).toList) = false := bne_eq_false_iff_eq.mpr c10
         clear c10
         by_cases c13 : ((rd_T27 l0 x5_1).f2) = ((rd_T27 l1 x5_1).f2)
         ·
          rw [if_pos c13] at H
          have c13b0 : (((rd_T27 l0 x5_1).f2) == ((rd_T27 l1 x5_1).f2)) = true := beq_iff_eq.mpr c13
          have c13b1 : (((rd_T27 l0 x5_1).f2) != ((rd_T27 l1 x5_1).f2)) = false := bne_eq_false_iff_eq.mpr c13
          clear c13
          by_cases c16 : ((rd_T27 l0 x5_1).f3).toList = ((rd_T27 l1 x5_1).f3).toList
          ·
           rw [if_pos c16] at H
           have c16b0 : (((rd_T27 l0 x5_1).f3).toList == ((rd_T27 l1 x5_1).f3).toList) = true := beq_iff_eq.mpr c16
           have c16b1 : (((rd_T27 l0 x5_1).f3).toList != ((rd_T27 l1 x5_1).f3).toList) = false := bne_eq_false_iff_eq.mpr c16
           clear c16
           by_cases c19 : ((rd_T27 l0 x5_1).f4).toList = ((rd_T27 l1 x5_1).f4).toList
           ·
            rw [if_pos c19] at H
            have c19b0 : (((rd_T27 l0 x5_1).f4).toList == ((rd_T27 l1 x5_1).f4).toList) = true := beq_iff_eq.mpr c19
            have c19b1 : (((rd_T27 l0 x5_1).f4).toList != ((rd_T27 l1 x5_1).f4).toList) = false := bne_eq_false_iff_eq.mpr c19
            clear c19
            by_cases c22 : ((rd_T27 l0 x5_1).f5) = ((rd_T27 l1 x5_1).f5)
            ·
             rw [if_pos c22] at H
             have c22b0 : (((rd_T27 l0 x5_1).f5) == ((rd_T27 l1 x5_1).f5)) = true := beq_iff_eq.mpr c22
             have c22b1 : (((rd_T27 l0 x5_1).f5) != ((rd_T27 l1 x5_1).f5)) = false := bne_eq_false_iff_eq.mpr c22
             clear c22
             by_cases c25 : ((rd_T27 l0 x5_1).f6) = ((rd_T27 l1 x5_1).f6)
             ·
              rw [if_pos c25] at H
              have c25b0 : (((rd_T27 l0 x5_1).f6) == ((rd_T27 l1 x5_1).f6)) = true := beq_iff_eq.mpr c25
              have c25b1 : (((rd_T27 l0 x5_1).f6) != ((rd_T27 l1 x5_1).f6)) = false := bne_eq_false_iff_eq.mpr c25
              clear c25
              have H' := Aside0.mk H
              clear H
              have p115 : 0 ≤ (x5_1 : Int) := of_decide_eq_true (by first | (with_reducible assumption) | assumption)
              have q115 : x5_1 < (l0.length : Int) := of_decide_eq_true (by first | (with_reducible assumption) | assumption)
              obtain ⟨ad115, A115_1, c115_1, e115, hx115_0, hx115_1, hx115_2, hx115_3, hx115_4, hx115_5, hx115_6, hl115_1, hi115_1⟩ := at_T27 HR0.out x5_1 p115 q115
              cases e115
              have HR115_1 := Aside0.mk hi115_1
              have HC115_1 := Aside0.mk hl115_1
              clear hi115_1 hl115_1
              replace p115 := eq_true p115
              replace q115 := eq_true q115
              have p116 : 0 ≤ (x5_1 : Int) := of_decide_eq_true (by first | (with_reducible assumption) | assumption)
              have q116 : x5_1 < (l1.length : Int) := of_decide_eq_true (by first | (with_reducible assumption) | assumption)
              obtain ⟨ad116, A116_1, c116_1, e116, hx116_0, hx116_1, hx116_2, hx116_3, hx116_4, hx116_5, hx116_6, hl116_1, hi116_1⟩ := at_T27 HR1.out x5_1 p116 q116
              cases e116
              have HR116_1 := Aside0.mk hi116_1
              have HC116_1 := Aside0.mk hl116_1
              clear hi116_1 hl116_1
              replace p116 := eq_true p116
              replace q116 := eq_true q116
              have p8 : 0 ≤ (x5_1 : Int) := of_decide_eq_true (by first | (with_reducible assumption) | assumption)
              have q8 : (x5_1 : Int) < ((l0.length : Int) : Int) := of_decide_eq_true (by first | (with_reducible assumption) | assumption)
              replace p8 := eq_true p8
              replace q8 := eq_true q8
              have hcv26 := Kd.C_string (P := Try.prog) (A := A115_1) (c := c115_1) Try.underlying25 Try.underlying5 Try.underlying9 HR115_1.out
              have hcv27 := fun n_ : Nat => Kd.C_string (P := Try.prog) (A := A115_1) (c := c115_1) Try.underlying25 Try.underlying5 Try.underlying9 (Kd.C_drewN HR115_1.out n_)
              have p9 : 0 ≤ (x5_1 : Int) := of_decide_eq_true (by first | (with_reducible assumption) | assumption)
              have q9 : (x5_1 : Int) < ((l1.length : Int) : Int) := of_decide_eq_true (by first | (with_reducible assumption) | assumption)
              replace p9 := eq_true p9
              replace q9 := eq_true q9
              have hcv28 := Kd.C_string (P := Try.prog) (A := A116_1) (c := c116_1) Try.underlying25 Try.underlying5 Try.underlying9 HR116_1.out
              have hcv29 := fun n_ : Nat => Kd.C_string (P := Try.prog) (A := A116_1) (c := c116_1) Try.underlying25 Try.underlying5 Try.underlying9 (Kd.C_drewN HR116_1.out n_)
              have p11 : 0 ≤ (x5_1 : Int) := of_decide_eq_true (by first | (with_reducible assumption) | assumption)
              have q11 : (x5_1 : Int) < ((l0.length : Int) : Int) := of_decide_eq_true (by first | (with_reducible assumption) | assumption)
              replace p11 := eq_true p11
              replace q11 := eq_true q11
              have p12 : 0 ≤ (x5_1 : Int) := of_decide_eq_true (by first | (with_reducible assumption) | assumption)
              have q12 : (x5_1 : Int) < ((l1.length : Int) : Int) := of_decide_eq_true (by first | (with_reducible assumption) | assumption)
              replace p12 := eq_true p12
              replace q12 := eq_true q12
              have p14 : 0 ≤ (x5_1 : Int) := of_decide_eq_true (by first | (with_reducible assumption) | assumption)
              have q14 : (x5_1 : Int) < ((l0.length : Int) : Int) := of_decide_eq_true (by first | (with_reducible assumption) | assumption)
              replace p14 := eq_true p14
              replace q14 := eq_true q14
              have p15 : 0 ≤ (x5_1 : Int) := of_decide_eq_true (by first | (with_reducible assumption) | assumption)
              have q15 : (x5_1 : Int) < ((l1.length : Int) : Int) := of_decide_eq_true (by first | (with_reducible assumption) | assumption)
              replace p15 := eq_true p15
              replace q15 := eq_true q15
              have p17 : 0 ≤ (x5_1 : Int) := of_decide_eq_true (by first | (with_reducible assumption) | assumption)
              have q17 : (x5_1 : Int) < ((l0.length : Int) : Int) := of_decide_eq_true (by first | (with_reducible assumption) | assumption)
              replace p17 := eq_true p17
              replace q17 := eq_true q17
              have p18 : 0 ≤ (x5_1 : Int) := of_decide_eq_true (by first | (with_reducible assumption) | assumption)
              have q18 : (x5_1 : Int) < ((l1.length : Int) : Int) := of_decide_eq_true (by first | (with_reducible assumption) | assumption)
              replace p18 := eq_true p18
              replace q18 := eq_true q18
              have p20 : 0 ≤ (x5_1 : Int) := of_decide_eq_true (by first | (with_reducible assumption) | assumption)
              have q20 : (x5_1 : Int) < ((l0.length : Int) : Int) := of_decide_eq_true (by first | (with_reducible assumption) | assumption)
              replace p20 := eq_true p20
              replace q20 := eq_true q20
              have p21 : 0 ≤ (x5_1 : Int) := of_decide_eq_true (by first | (with_reducible assumption) | assumption)
              have q21 : (x5_1 : Int) < ((l1.length : Int) : Int) := of_decide_eq_true (by first | (with_reducible assumption) | assumption)
              replace p21 := eq_true p21
              replace q21 := eq_true q21
              have p23 : 0 ≤ (x5_1 : Int) := of_decide_eq_true (by first | (with_reducible assumption) | assumption)
              have q23 : (x5_1 : Int) < ((l0.length : Int) : Int) := of_decide_eq_true (by first | (with_reducible assumption) | assumption)
              replace p23 := eq_true p23
              replace q23 := eq_true q23
              have p24 : 0 ≤ (x5_1 : Int) := of_decide_eq_true (by first | (with_reducible assumption) | assumption)
              have q24 : (x5_1 : Int) < ((l1.length : Int) : Int) := of_decide_eq_true (by first | (with_reducible assumption) | assumption)
              replace p24 := eq_true p24
              replace q24 := eq_true q24
              go_wp2
              repeat ((first | (refine wp_region_quiet_lit (by kernel_rfl) (by first | exact Option.some.inj quoinref19_Same.lexf | kernel_rfl) ?_; (repeat (go_big_quiet_step (fail))); refine wpQuiet_nil ?_; intro _ hw'; obtain ⟨nq, hw''⟩ := hw'; subst hw'') | (refine wp_region_quiet_lit (by kernel_rfl) (by first | exact Option.some.inj quoinref19_Same.lexf | kernel_rfl) ?_; (repeat (quiet_step (fail))); refine wpQuiet_nil ?_; intro _ hw'; obtain ⟨nq, hw''⟩ := hw'; subst hw'')); try go_wp2)
              go_roundg k1
              case measure => have := HK1.out; omega
              case rel => exact ⟨(wrap64 (x5_1 + 1)), (by first | rfl | (simp; done) | (simp [*]; done)), H', ⟨by have := HK1.out; omega⟩, by repeat (first | exact Drawn0.refl _ | apply Drawn0.step)⟩
             ·
              rw [if_neg c25] at H
              have c25b0 : (((rd_T27 l0 x5_1).f6) == ((rd_T27 l1 x5_1).f6)) = false := beq_eq_false_iff_ne.mpr c25
              have c25b1 : (((rd_T27 l0 x5_1).f6) != ((rd_T27 l1 x5_1).f6)) = true := bne_iff_ne.mpr c25
              obtain rfl := Option.some.inj H
              have p115 : 0 ≤ (x5_1 : Int) := of_decide_eq_true (by first | (with_reducible assumption) | assumption)
              have q115 : x5_1 < (l0.length : Int) := of_decide_eq_true (by first | (with_reducible assumption) | assumption)
              obtain ⟨ad115, A115_1, c115_1, e115, hx115_0, hx115_1, hx115_2, hx115_3, hx115_4, hx115_5, hx115_6, hl115_1, hi115_1⟩ := at_T27 HR0.out x5_1 p115 q115
              cases e115
              have HR115_1 := Aside0.mk hi115_1
              have HC115_1 := Aside0.mk hl115_1
              clear hi115_1 hl115_1
              replace p115 := eq_true p115
              replace q115 := eq_true q115
              have p116 : 0 ≤ (x5_1 : Int) := of_decide_eq_true (by first | (with_reducible assumption) | assumption)
              have q116 : x5_1 < (l1.length : Int) := of_decide_eq_true (by first | (with_reducible assumption) | assumption)
              obtain ⟨ad116, A116_1, c116_1, e116, hx116_0, hx116_1, hx116_2, hx116_3, hx116_4, hx116_5, hx116_6, hl116_1, hi116_1⟩ := at_T27 HR1.out x5_1 p116 q116
              cases e116
              have HR116_1 := Aside0.mk hi116_1
              have HC116_1 := Aside0.mk hl116_1
              clear hi116_1 hl116_1
              replace p116 := eq_true p116
              replace q116 := eq_true q116
              have p8 : 0 ≤ (x5_1 : Int) := of_decide_eq_true (by first | (with_reducible assumption) | assumption)
              have q8 : (x5_1 : Int) < ((l0.length : Int) : Int) := of_decide_eq_true (by first | (with_reducible assumption) | assumption)
              replace p8 := eq_true p8
              replace q8 := eq_true q8
              have hcv30 := Kd.C_string (P := Try.prog) (A := A115_1) (c := c115_1) Try.underlying25 Try.underlying5 Try.underlying9 HR115_1.out
              have hcv31 := fun n_ : Nat => Kd.C_string (P := Try.prog) (A := A115_1) (c := c115_1) Try.underlying25 Try.underlying5 Try.underlying9 (Kd.C_drewN HR115_1.out n_)
              have p9 : 0 ≤ (x5_1 : Int) := of_decide_eq_true (by first | (with_reducible assumption) | assumption)
              have q9 : (x5_1 : Int) < ((l1.length : Int) : Int) := of_decide_eq_true (by first | (with_reducible assumption) | assumption)
              replace p9 := eq_true p9
              replace q9 := eq_true q9
              have hcv32 := Kd.C_string (P := Try.prog) (A := A116_1) (c := c116_1) Try.underlying25 Try.underlying5 Try.underlying9 HR116_1.out
              have hcv33 := fun n_ : Nat => Kd.C_string (P := Try.prog) (A := A116_1) (c := c116_1) Try.underlying25 Try.underlying5 Try.underlying9 (Kd.C_drewN HR116_1.out n_)
              have p11 : 0 ≤ (x5_1 : Int) := of_decide_eq_true (by first | (with_reducible assumption) | assumption)
              have q11 : (x5_1 : Int) < ((l0.length : Int) : Int) := of_decide_eq_true (by first | (with_reducible assumption) | assumption)
              replace p11 := eq_true p11
              replace q11 := eq_true q11
              have p12 : 0 ≤ (x5_1 : Int) := of_decide_eq_true (by first | (with_reducible assumption) | assumption)
              have q12 : (x5_1 : Int) < ((l1.length : Int) : Int) := of_decide_eq_true (by first | (with_reducible assumption) | assumption)
              replace p12 := eq_true p12
              replace q12 := eq_true q12
              have p14 : 0 ≤ (x5_1 : Int) := of_decide_eq_true (by first | (with_reducible assumption) | assumption)
              have q14 : (x5_1 : Int) < ((l0.length : Int) : Int) := of_decide_eq_true (by first | (with_reducible assumption) | assumption)
              replace p14 := eq_true p14
              replace q14 := eq_true q14
              have p15 : 0 ≤ (x5_1 : Int) := of_decide_eq_true (by first | (with_reducible assumption) | assumption)
              have q15 : (x5_1 : Int) < ((l1.length : Int) : Int) := of_decide_eq_true (by first | (with_reducible assumption) | assumption)
              replace p15 := eq_true p15
              replace q15 := eq_true q15
              have p17 : 0 ≤ (x5_1 : Int) := of_decide_eq_true (by first | (with_reducible assumption) | assumption)
              have q17 : (x5_1 : Int) < ((l0.length : Int) : Int) := of_decide_eq_true (by first | (with_reducible assumption) | assumption)
              replace p17 := eq_true p17
              replace q17 := eq_true q17
              have p18 : 0 ≤ (x5_1 : Int) := of_decide_eq_true (by first | (with_reducible assumption) | assumption)
              have q18 : (x5_1 : Int) < ((l1.length : Int) : Int) := of_decide_eq_true (by first | (with_reducible assumption) | assumption)
              replace p18 := eq_true p18
              replace q18 := eq_true q18
              have p20 : 0 ≤ (x5_1 : Int) := of_decide_eq_true (by first | (with_reducible assumption) | assumption)
              have q20 : (x5_1 : Int) < ((l0.length : Int) : Int) := of_decide_eq_true (by first | (with_reducible assumption) | assumption)
              replace p20 := eq_true p20
              replace q20 := eq_true q20
              have p21 : 0 ≤ (x5_1 : Int) := of_decide_eq_true (by first | (with_reducible assumption) | assumption)
              have q21 : (x5_1 : Int) < ((l1.length : Int) : Int) := of_decide_eq_true (by first | (with_reducible assumption) | assumption)
              replace p21 := eq_true p21
              replace q21 := eq_true q21
              have p23 : 0 ≤ (x5_1 : Int) := of_decide_eq_true (by first | (with_reducible assumption) | assumption)
              have q23 : (x5_1 : Int) < ((l0.length : Int) : Int) := of_decide_eq_true (by first | (with_reducible assumption) | assumption)
              replace p23 := eq_true p23
              replace q23 := eq_true q23
              have p24 : 0 ≤ (x5_1 : Int) := of_decide_eq_true (by first | (with_reducible assumption) | assumption)
              have q24 : (x5_1 : Int) < ((l1.length : Int) : Int) := of_decide_eq_true (by first | (with_reducible assumption) | assumption)
              replace p24 := eq_true p24
              replace q24 := eq_true q24
              go_wp2
              repeat ((first | (refine wp_region_quiet_lit (by kernel_rfl) (by first | exact Option.some.inj quoinref19_Same.lexf | kernel_rfl) ?_; (repeat (go_big_quiet_step (fail))); refine wpQuiet_nil ?_; intro _ hw'; obtain ⟨nq, hw''⟩ := hw'; subst hw'') | (refine wp_region_quiet_lit (by kernel_rfl) (by first | exact Option.some.inj quoinref19_Same.lexf | kernel_rfl) ?_; (repeat (quiet_step (fail))); refine wpQuiet_nil ?_; intro _ hw'; obtain ⟨nq, hw''⟩ := hw'; subst hw'')); try go_wp2)
              go_ret
              exact ⟨by first | rfl | (simp; done) | (simp [*]; done), by repeat (first | exact Drawn0.refl _ | apply Drawn0.step)⟩
            ·
             rw [if_neg c22] at H
             have c22b0 : (((rd_T27 l0 x5_1).f5) == ((rd_T27 l1 x5_1).f5)) = false := beq_eq_false_iff_ne.mpr c22
             have c22b1 : (((rd_T27 l0 x5_1).f5) != ((rd_T27 l1 x5_1).f5)) = true := bne_iff_ne.mpr c22
             obtain rfl := Option.some.inj H
             have p115 : 0 ≤ (x5_1 : Int) := of_decide_eq_true (by first | (with_reducible assumption) | assumption)
             have q115 : x5_1 < (l0.length : Int) := of_decide_eq_true (by first | (with_reducible assumption) | assumption)
             obtain ⟨ad115, A115_1, c115_1, e115, hx115_0, hx115_1, hx115_2, hx115_3, hx115_4, hx115_5, hx115_6, hl115_1, hi115_1⟩ := at_T27 HR0.out x5_1 p115 q115
             cases e115
             have HR115_1 := Aside0.mk hi115_1
             have HC115_1 := Aside0.mk hl115_1
             clear hi115_1 hl115_1
             replace p115 := eq_true p115
             replace q115 := eq_true q115
             have p116 : 0 ≤ (x5_1 : Int) := of_decide_eq_true (by first | (with_reducible assumption) | assumption)
             have q116 : x5_1 < (l1.length : Int) := of_decide_eq_true (by first | (with_reducible assumption) | assumption)
             obtain ⟨ad116, A116_1, c116_1, e116, hx116_0, hx116_1, hx116_2, hx116_3, hx116_4, hx116_5, hx116_6, hl116_1, hi116_1⟩ := at_T27 HR1.out x5_1 p116 q116
             cases e116
             have HR116_1 := Aside0.mk hi116_1
             have HC116_1 := Aside0.mk hl116_1
             clear hi116_1 hl116_1
             replace p116 := eq_true p116
             replace q116 := eq_true q116
             have p8 : 0 ≤ (x5_1 : Int) := of_decide_eq_true (by first | (with_reducible assumption) | assumption)
             have q8 : (x5_1 : Int) < ((l0.length : Int) : Int) := of_decide_eq_true (by first | (with_reducible assumption) | assumption)
             replace p8 := eq_true p8
             replace q8 := eq_true q8
             have hcv34 := Kd.C_string (P := Try.prog) (A := A115_1) (c := c115_1) Try.underlying25 Try.underlying5 Try.underlying9 HR115_1.out
             have hcv35 := fun n_ : Nat => Kd.C_string (P := Try.prog) (A := A115_1) (c := c115_1) Try.underlying25 Try.underlying5 Try.underlying9 (Kd.C_drewN HR115_1.out n_)
             have p9 : 0 ≤ (x5_1 : Int) := of_decide_eq_true (by first | (with_reducible assumption) | assumption)
             have q9 : (x5_1 : Int) < ((l1.length : Int) : Int) := of_decide_eq_true (by first | (with_reducible assumption) | assumption)
             replace p9 := eq_true p9
             replace q9 := eq_true q9
             have hcv36 := Kd.C_string (P := Try.prog) (A := A116_1) (c := c116_1) Try.underlying25 Try.underlying5 Try.underlying9 HR116_1.out
             have hcv37 := fun n_ : Nat => Kd.C_string (P := Try.prog) (A := A116_1) (c := c116_1) Try.underlying25 Try.underlying5 Try.underlying9 (Kd.C_drewN HR116_1.out n_)
             have p11 : 0 ≤ (x5_1 : Int) := of_decide_eq_true (by first | (with_reducible assumption) | assumption)
             have q11 : (x5_1 : Int) < ((l0.length : Int) : Int) := of_decide_eq_true (by first | (with_reducible assumption) | assumption)
             replace p11 := eq_true p11
             replace q11 := eq_true q11
             have p12 : 0 ≤ (x5_1 : Int) := of_decide_eq_true (by first | (with_reducible assumption) | assumption)
             have q12 : (x5_1 : Int) < ((l1.length : Int) : Int) := of_decide_eq_true (by first | (with_reducible assumption) | assumption)
             replace p12 := eq_true p12
             replace q12 := eq_true q12
             have p14 : 0 ≤ (x5_1 : Int) := of_decide_eq_true (by first | (with_reducible assumption) | assumption)
             have q14 : (x5_1 : Int) < ((l0.length : Int) : Int) := of_decide_eq_true (by first | (with_reducible assumption) | assumption)
             replace p14 := eq_true p14
             replace q14 := eq_true q14
             have p15 : 0 ≤ (x5_1 : Int) := of_decide_eq_true (by first | (with_reducible assumption) | assumption)
             have q15 : (x5_1 : Int) < ((l1.length : Int) : Int) := of_decide_eq_true (by first | (with_reducible assumption) | assumption)
             replace p15 := eq_true p15
             replace q15 := eq_true q15
             have p17 : 0 ≤ (x5_1 : Int) := of_decide_eq_true (by first | (with_reducible assumption) | assumption)
             have q17 : (x5_1 : Int) < ((l0.length : Int) : Int) := of_decide_eq_true (by first | (with_reducible assumption) | assumption)
             replace p17 := eq_true p17
             replace q17 := eq_true q17
             have p18 : 0 ≤ (x5_1 : Int) := of_decide_eq_true (by first | (with_reducible assumption) | assumption)
             have q18 : (x5_1 : Int) < ((l1.length : Int) : Int) := of_decide_eq_true (by first | (with_reducible assumption) | assumption)
             replace p18 := eq_true p18
             replace q18 := eq_true q18
             have p20 : 0 ≤ (x5_1 : Int) := of_decide_eq_true (by first | (with_reducible assumption) | assumption)
             have q20 : (x5_1 : Int) < ((l0.length : Int) : Int) := of_decide_eq_true (by first | (with_reducible assumption) | assumption)
             replace p20 := eq_true p20
             replace q20 := eq_true q20
             have p21 : 0 ≤ (x5_1 : Int) := of_decide_eq_true (by first | (with_reducible assumption) | assumption)
             have q21 : (x5_1 : Int) < ((l1.length : Int) : Int) := of_decide_eq_true (by first | (with_reducible assumption) | assumption)
             replace p21 := eq_true p21
             replace q21 := eq_true q21
             go_wp2
             repeat ((first | (refine wp_region_quiet_lit (by kernel_rfl) (by first | exact Option.some.inj quoinref19_Same.lexf | kernel_rfl) ?_; (repeat (go_big_quiet_step (fail))); refine wpQuiet_nil ?_; intro _ hw'; obtain ⟨nq, hw''⟩ := hw'; subst hw'') | (refine wp_region_quiet_lit (by kernel_rfl) (by first | exact Option.some.inj quoinref19_Same.lexf | kernel_rfl) ?_; (repeat (quiet_step (fail))); refine wpQuiet_nil ?_; intro _ hw'; obtain ⟨nq, hw''⟩ := hw'; subst hw'')); try go_wp2)
             go_ret
             exact ⟨by first | rfl | (simp; done) | (simp [*]; done), by repeat (first | exact Drawn0.refl _ | apply Drawn0.step)⟩
           ·
            rw [if_neg c19] at H
            have c19b0 : (((rd_T27 l0 x5_1).f4).toList == ((rd_T27 l1 x5_1).f4).toList) = false := beq_eq_false_iff_ne.mpr c19
            have c19b1 : (((rd_T27 l0 x5_1).f4).toList != ((rd_T27 l1 x5_1).f4).toList) = true := bne_iff_ne.mpr c19
            obtain rfl := Option.some.inj H
            have p115 : 0 ≤ (x5_1 : Int) := of_decide_eq_true (by first | (with_reducible assumption) | assumption)
            have q115 : x5_1 < (l0.length : Int) := of_decide_eq_true (by first | (with_reducible assumption) | assumption)
            obtain ⟨ad115, A115_1, c115_1, e115, hx115_0, hx115_1, hx115_2, hx115_3, hx115_4, hx115_5, hx115_6, hl115_1, hi115_1⟩ := at_T27 HR0.out x5_1 p115 q115
            cases e115
            have HR115_1 := Aside0.mk hi115_1
            have HC115_1 := Aside0.mk hl115_1
            clear hi115_1 hl115_1
            replace p115 := eq_true p115
            replace q115 := eq_true q115
            have p116 : 0 ≤ (x5_1 : Int) := of_decide_eq_true (by first | (with_reducible assumption) | assumption)
            have q116 : x5_1 < (l1.length : Int) := of_decide_eq_true (by first | (with_reducible assumption) | assumption)
            obtain ⟨ad116, A116_1, c116_1, e116, hx116_0, hx116_1, hx116_2, hx116_3, hx116_4, hx116_5, hx116_6, hl116_1, hi116_1⟩ := at_T27 HR1.out x5_1 p116 q116
            cases e116
            have HR116_1 := Aside0.mk hi116_1
            have HC116_1 := Aside0.mk hl116_1
            clear hi116_1 hl116_1
            replace p116 := eq_true p116
            replace q116 := eq_true q116
            have p8 : 0 ≤ (x5_1 : Int) := of_decide_eq_true (by first | (with_reducible assumption) | assumption)
            have q8 : (x5_1 : Int) < ((l0.length : Int) : Int) := of_decide_eq_true (by first | (with_reducible assumption) | assumption)
            replace p8 := eq_true p8
            replace q8 := eq_true q8
            have hcv38 := Kd.C_string (P := Try.prog) (A := A115_1) (c := c115_1) Try.underlying25 Try.underlying5 Try.underlying9 HR115_1.out
            have hcv39 := fun n_ : Nat => Kd.C_string (P := Try.prog) (A := A115_1) (c := c115_1) Try.underlying25 Try.underlying5 Try.underlying9 (Kd.C_drewN HR115_1.out n_)
            have p9 : 0 ≤ (x5_1 : Int) := of_decide_eq_true (by first | (with_reducible assumption) | assumption)
            have q9 : (x5_1 : Int) < ((l1.length : Int) : Int) := of_decide_eq_true (by first | (with_reducible assumption) | assumption)
            replace p9 := eq_true p9
            replace q9 := eq_true q9
            have hcv40 := Kd.C_string (P := Try.prog) (A := A116_1) (c := c116_1) Try.underlying25 Try.underlying5 Try.underlying9 HR116_1.out
            have hcv41 := fun n_ : Nat => Kd.C_string (P := Try.prog) (A := A116_1) (c := c116_1) Try.underlying25 Try.underlying5 Try.underlying9 (Kd.C_drewN HR116_1.out n_)
            have p11 : 0 ≤ (x5_1 : Int) := of_decide_eq_true (by first | (with_reducible assumption) | assumption)
            have q11 : (x5_1 : Int) < ((l0.length : Int) : Int) := of_decide_eq_true (by first | (with_reducible assumption) | assumption)
            replace p11 := eq_true p11
            replace q11 := eq_true q11
            have p12 : 0 ≤ (x5_1 : Int) := of_decide_eq_true (by first | (with_reducible assumption) | assumption)
            have q12 : (x5_1 : Int) < ((l1.length : Int) : Int) := of_decide_eq_true (by first | (with_reducible assumption) | assumption)
            replace p12 := eq_true p12
            replace q12 := eq_true q12
            have p14 : 0 ≤ (x5_1 : Int) := of_decide_eq_true (by first | (with_reducible assumption) | assumption)
            have q14 : (x5_1 : Int) < ((l0.length : Int) : Int) := of_decide_eq_true (by first | (with_reducible assumption) | assumption)
            replace p14 := eq_true p14
            replace q14 := eq_true q14
            have p15 : 0 ≤ (x5_1 : Int) := of_decide_eq_true (by first | (with_reducible assumption) | assumption)
            have q15 : (x5_1 : Int) < ((l1.length : Int) : Int) := of_decide_eq_true (by first | (with_reducible assumption) | assumption)
            replace p15 := eq_true p15
            replace q15 := eq_true q15
            have p17 : 0 ≤ (x5_1 : Int) := of_decide_eq_true (by first | (with_reducible assumption) | assumption)
            have q17 : (x5_1 : Int) < ((l0.length : Int) : Int) := of_decide_eq_true (by first | (with_reducible assumption) | assumption)
            replace p17 := eq_true p17
            replace q17 := eq_true q17
            have p18 : 0 ≤ (x5_1 : Int) := of_decide_eq_true (by first | (with_reducible assumption) | assumption)
            have q18 : (x5_1 : Int) < ((l1.length : Int) : Int) := of_decide_eq_true (by first | (with_reducible assumption) | assumption)
            replace p18 := eq_true p18
            replace q18 := eq_true q18
            go_wp2
            repeat ((first | (refine wp_region_quiet_lit (by kernel_rfl) (by first | exact Option.some.inj quoinref19_Same.lexf | kernel_rfl) ?_; (repeat (go_big_quiet_step (fail))); refine wpQuiet_nil ?_; intro _ hw'; obtain ⟨nq, hw''⟩ := hw'; subst hw'') | (refine wp_region_quiet_lit (by kernel_rfl) (by first | exact Option.some.inj quoinref19_Same.lexf | kernel_rfl) ?_; (repeat (quiet_step (fail))); refine wpQuiet_nil ?_; intro _ hw'; obtain ⟨nq, hw''⟩ := hw'; subst hw'')); try go_wp2)
            go_ret
            exact ⟨by first | rfl | (simp; done) | (simp [*]; done), by repeat (first | exact Drawn0.refl _ | apply Drawn0.step)⟩
          ·
           rw [if_neg c16] at H
           have c16b0 : (((rd_T27 l0 x5_1).f3).toList == ((rd_T27 l1 x5_1).f3).toList) = false := beq_eq_false_iff_ne.mpr c16
           have c16b1 : (((rd_T27 l0 x5_1).f3).toList != ((rd_T27 l1 x5_1).f3).toList) = true := bne_iff_ne.mpr c16
           obtain rfl := Option.some.inj H
           have p115 : 0 ≤ (x5_1 : Int) := of_decide_eq_true (by first | (with_reducible assumption) | assumption)
           have q115 : x5_1 < (l0.length : Int) := of_decide_eq_true (by first | (with_reducible assumption) | assumption)
           obtain ⟨ad115, A115_1, c115_1, e115, hx115_0, hx115_1, hx115_2, hx115_3, hx115_4, hx115_5, hx115_6, hl115_1, hi115_1⟩ := at_T27 HR0.out x5_1 p115 q115
           cases e115
           have HR115_1 := Aside0.mk hi115_1
           have HC115_1 := Aside0.mk hl115_1
           clear hi115_1 hl115_1
           replace p115 := eq_true p115
           replace q115 := eq_true q115
           have p116 : 0 ≤ (x5_1 : Int) := of_decide_eq_true (by first | (with_reducible assumption) | assumption)
           have q116 : x5_1 < (l1.length : Int) := of_decide_eq_true (by first | (with_reducible assumption) | assumption)
           obtain ⟨ad116, A116_1, c116_1, e116, hx116_0, hx116_1, hx116_2, hx116_3, hx116_4, hx116_5, hx116_6, hl116_1, hi116_1⟩ := at_T27 HR1.out x5_1 p116 q116
           cases e116
           have HR116_1 := Aside0.mk hi116_1
           have HC116_1 := Aside0.mk hl116_1
           clear hi116_1 hl116_1
           replace p116 := eq_true p116
           replace q116 := eq_true q116
           have p8 : 0 ≤ (x5_1 : Int) := of_decide_eq_true (by first | (with_reducible assumption) | assumption)
           have q8 : (x5_1 : Int) < ((l0.length : Int) : Int) := of_decide_eq_true (by first | (with_reducible assumption) | assumption)
           replace p8 := eq_true p8
           replace q8 := eq_true q8
           have hcv42 := Kd.C_string (P := Try.prog) (A := A115_1) (c := c115_1) Try.underlying25 Try.underlying5 Try.underlying9 HR115_1.out
           have hcv43 := fun n_ : Nat => Kd.C_string (P := Try.prog) (A := A115_1) (c := c115_1) Try.underlying25 Try.underlying5 Try.underlying9 (Kd.C_drewN HR115_1.out n_)
           have p9 : 0 ≤ (x5_1 : Int) := of_decide_eq_true (by first | (with_reducible assumption) | assumption)
           have q9 : (x5_1 : Int) < ((l1.length : Int) : Int) := of_decide_eq_true (by first | (with_reducible assumption) | assumption)
           replace p9 := eq_true p9
           replace q9 := eq_true q9
           have hcv44 := Kd.C_string (P := Try.prog) (A := A116_1) (c := c116_1) Try.underlying25 Try.underlying5 Try.underlying9 HR116_1.out
           have hcv45 := fun n_ : Nat => Kd.C_string (P := Try.prog) (A := A116_1) (c := c116_1) Try.underlying25 Try.underlying5 Try.underlying9 (Kd.C_drewN HR116_1.out n_)
           have p11 : 0 ≤ (x5_1 : Int) := of_decide_eq_true (by first | (with_reducible assumption) | assumption)
           have q11 : (x5_1 : Int) < ((l0.length : Int) : Int) := of_decide_eq_true (by first | (with_reducible assumption) | assumption)
           replace p11 := eq_true p11
           replace q11 := eq_true q11
           have p12 : 0 ≤ (x5_1 : Int) := of_decide_eq_true (by first | (with_reducible assumption) | assumption)
           have q12 : (x5_1 : Int) < ((l1.length : Int) : Int) := of_decide_eq_true (by first | (with_reducible assumption) | assumption)
           replace p12 := eq_true p12
           replace q12 := eq_true q12
           have p14 : 0 ≤ (x5_1 : Int) := of_decide_eq_true (by first | (with_reducible assumption) | assumption)
           have q14 : (x5_1 : Int) < ((l0.length : Int) : Int) := of_decide_eq_true (by first | (with_reducible assumption) | assumption)
           replace p14 := eq_true p14
           replace q14 := eq_true q14
           have p15 : 0 ≤ (x5_1 : Int) := of_decide_eq_true (by first | (with_reducible assumption) | assumption)
           have q15 : (x5_1 : Int) < ((l1.length : Int) : Int) := of_decide_eq_true (by first | (with_reducible assumption) | assumption)
           replace p15 := eq_true p15
           replace q15 := eq_true q15
           go_wp2
           repeat ((first | (refine wp_region_quiet_lit (by kernel_rfl) (by first | exact Option.some.inj quoinref19_Same.lexf | kernel_rfl) ?_; (repeat (go_big_quiet_step (fail))); refine wpQuiet_nil ?_; intro _ hw'; obtain ⟨nq, hw''⟩ := hw'; subst hw'') | (refine wp_region_quiet_lit (by kernel_rfl) (by first | exact Option.some.inj quoinref19_Same.lexf | kernel_rfl) ?_; (repeat (quiet_step (fail))); refine wpQuiet_nil ?_; intro _ hw'; obtain ⟨nq, hw''⟩ := hw'; subst hw'')); try go_wp2)
           go_ret
           exact ⟨by first | rfl | (simp; done) | (simp [*]; done), by repeat (first | exact Drawn0.refl _ | apply Drawn0.step)⟩
         ·
          rw [if_neg c13] at H
          have c13b0 : (((rd_T27 l0 x5_1).f2) == ((rd_T27 l1 x5_1).f2)) = false := beq_eq_false_iff_ne.mpr c13
          have c13b1 : (((rd_T27 l0 x5_1).f2) != ((rd_T27 l1 x5_1).f2)) = true := bne_iff_ne.mpr c13
          obtain rfl := Option.some.inj H
          have p115 : 0 ≤ (x5_1 : Int) := of_decide_eq_true (by first | (with_reducible assumption) | assumption)
          have q115 : x5_1 < (l0.length : Int) := of_decide_eq_true (by first | (with_reducible assumption) | assumption)
          obtain ⟨ad115, A115_1, c115_1, e115, hx115_0, hx115_1, hx115_2, hx115_3, hx115_4, hx115_5, hx115_6, hl115_1, hi115_1⟩ := at_T27 HR0.out x5_1 p115 q115
          cases e115
          have HR115_1 := Aside0.mk hi115_1
          have HC115_1 := Aside0.mk hl115_1
          clear hi115_1 hl115_1
          replace p115 := eq_true p115
          replace q115 := eq_true q115
          have p116 : 0 ≤ (x5_1 : Int) := of_decide_eq_true (by first | (with_reducible assumption) | assumption)
          have q116 : x5_1 < (l1.length : Int) := of_decide_eq_true (by first | (with_reducible assumption) | assumption)
          obtain ⟨ad116, A116_1, c116_1, e116, hx116_0, hx116_1, hx116_2, hx116_3, hx116_4, hx116_5, hx116_6, hl116_1, hi116_1⟩ := at_T27 HR1.out x5_1 p116 q116
          cases e116
          have HR116_1 := Aside0.mk hi116_1
          have HC116_1 := Aside0.mk hl116_1
          clear hi116_1 hl116_1
          replace p116 := eq_true p116
          replace q116 := eq_true q116
          have p8 : 0 ≤ (x5_1 : Int) := of_decide_eq_true (by first | (with_reducible assumption) | assumption)
          have q8 : (x5_1 : Int) < ((l0.length : Int) : Int) := of_decide_eq_true (by first | (with_reducible assumption) | assumption)
          replace p8 := eq_true p8
          replace q8 := eq_true q8
          have hcv46 := Kd.C_string (P := Try.prog) (A := A115_1) (c := c115_1) Try.underlying25 Try.underlying5 Try.underlying9 HR115_1.out
          have hcv47 := fun n_ : Nat => Kd.C_string (P := Try.prog) (A := A115_1) (c := c115_1) Try.underlying25 Try.underlying5 Try.underlying9 (Kd.C_drewN HR115_1.out n_)
          have p9 : 0 ≤ (x5_1 : Int) := of_decide_eq_true (by first | (with_reducible assumption) | assumption)
          have q9 : (x5_1 : Int) < ((l1.length : Int) : Int) := of_decide_eq_true (by first | (with_reducible assumption) | assumption)
          replace p9 := eq_true p9
          replace q9 := eq_true q9
          have hcv48 := Kd.C_string (P := Try.prog) (A := A116_1) (c := c116_1) Try.underlying25 Try.underlying5 Try.underlying9 HR116_1.out
          have hcv49 := fun n_ : Nat => Kd.C_string (P := Try.prog) (A := A116_1) (c := c116_1) Try.underlying25 Try.underlying5 Try.underlying9 (Kd.C_drewN HR116_1.out n_)
          have p11 : 0 ≤ (x5_1 : Int) := of_decide_eq_true (by first | (with_reducible assumption) | assumption)
          have q11 : (x5_1 : Int) < ((l0.length : Int) : Int) := of_decide_eq_true (by first | (with_reducible assumption) | assumption)
          replace p11 := eq_true p11
          replace q11 := eq_true q11
          have p12 : 0 ≤ (x5_1 : Int) := of_decide_eq_true (by first | (with_reducible assumption) | assumption)
          have q12 : (x5_1 : Int) < ((l1.length : Int) : Int) := of_decide_eq_true (by first | (with_reducible assumption) | assumption)
          replace p12 := eq_true p12
          replace q12 := eq_true q12
          go_wp2
          repeat ((first | (refine wp_region_quiet_lit (by kernel_rfl) (by first | exact Option.some.inj quoinref19_Same.lexf | kernel_rfl) ?_; (repeat (go_big_quiet_step (fail))); refine wpQuiet_nil ?_; intro _ hw'; obtain ⟨nq, hw''⟩ := hw'; subst hw'') | (refine wp_region_quiet_lit (by kernel_rfl) (by first | exact Option.some.inj quoinref19_Same.lexf | kernel_rfl) ?_; (repeat (quiet_step (fail))); refine wpQuiet_nil ?_; intro _ hw'; obtain ⟨nq, hw''⟩ := hw'; subst hw'')); try go_wp2)
          go_ret
          exact ⟨by first | rfl | (simp; done) | (simp [*]; done), by repeat (first | exact Drawn0.refl _ | apply Drawn0.step)⟩
        ·
         rw [if_neg c10] at H
         have c10b0 : ((strOfNums ((rd_T27 l0 x5_1).f1)).toList == (strOfNums ((rd_T27 l1 x5_1).f1)).toList) = false := beq_eq_false_iff_ne.mpr c10
         have c10b1 : ((strOfNums ((rd_T27 l0 x5_1).f1)).toList != (strOfNums ((rd_T27 l1 x5_1).f1)).toList) = true := bne_iff_ne.mpr c10
         obtain rfl := Option.some.inj H
         have p115 : 0 ≤ (x5_1 : Int) := of_decide_eq_true (by first | (with_reducible assumption) | assumption)
         have q115 : x5_1 < (l0.length : Int) := of_decide_eq_true (by first | (with_reducible assumption) | assumption)
         obtain ⟨ad115, A115_1, c115_1, e115, hx115_0, hx115_1, hx115_2, hx115_3, hx115_4, hx115_5, hx115_6, hl115_1, hi115_1⟩ := at_T27 HR0.out x5_1 p115 q115
         cases e115
         have HR115_1 := Aside0.mk hi115_1
         have HC115_1 := Aside0.mk hl115_1
         clear hi115_1 hl115_1
         replace p115 := eq_true p115
         replace q115 := eq_true q115
         have p116 : 0 ≤ (x5_1 : Int) := of_decide_eq_true (by first | (with_reducible assumption) | assumption)
         have q116 : x5_1 < (l1.length : Int) := of_decide_eq_true (by first | (with_reducible assumption) | assumption)
         obtain ⟨ad116, A116_1, c116_1, e116, hx116_0, hx116_1, hx116_2, hx116_3, hx116_4, hx116_5, hx116_6, hl116_1, hi116_1⟩ := at_T27 HR1.out x5_1 p116 q116
         cases e116
         have HR116_1 := Aside0.mk hi116_1
         have HC116_1 := Aside0.mk hl116_1
         clear hi116_1 hl116_1
         replace p116 := eq_true p116
         replace q116 := eq_true q116
         have p8 : 0 ≤ (x5_1 : Int) := of_decide_eq_true (by first | (with_reducible assumption) | assumption)
         have q8 : (x5_1 : Int) < ((l0.length : Int) : Int) := of_decide_eq_true (by first | (with_reducible assumption) | assumption)
         replace p8 := eq_true p8
         replace q8 := eq_true q8
         have hcv50 := Kd.C_string (P := Try.prog) (A := A115_1) (c := c115_1) Try.underlying25 Try.underlying5 Try.underlying9 HR115_1.out
         have hcv51 := fun n_ : Nat => Kd.C_string (P := Try.prog) (A := A115_1) (c := c115_1) Try.underlying25 Try.underlying5 Try.underlying9 (Kd.C_drewN HR115_1.out n_)
         have p9 : 0 ≤ (x5_1 : Int) := of_decide_eq_true (by first | (with_reducible assumption) | assumption)
         have q9 : (x5_1 : Int) < ((l1.length : Int) : Int) := of_decide_eq_true (by first | (with_reducible assumption) | assumption)
         replace p9 := eq_true p9
         replace q9 := eq_true q9
         have hcv52 := Kd.C_string (P := Try.prog) (A := A116_1) (c := c116_1) Try.underlying25 Try.underlying5 Try.underlying9 HR116_1.out
         have hcv53 := fun n_ : Nat => Kd.C_string (P := Try.prog) (A := A116_1) (c := c116_1) Try.underlying25 Try.underlying5 Try.underlying9 (Kd.C_drewN HR116_1.out n_)
         go_wp2
         repeat ((first | (refine wp_region_quiet_lit (by kernel_rfl) (by first | exact Option.some.inj quoinref19_Same.lexf | kernel_rfl) ?_; (repeat (go_big_quiet_step (fail))); refine wpQuiet_nil ?_; intro _ hw'; obtain ⟨nq, hw''⟩ := hw'; subst hw'') | (refine wp_region_quiet_lit (by kernel_rfl) (by first | exact Option.some.inj quoinref19_Same.lexf | kernel_rfl) ?_; (repeat (quiet_step (fail))); refine wpQuiet_nil ?_; intro _ hw'; obtain ⟨nq, hw''⟩ := hw'; subst hw'')); try go_wp2)
         go_ret
         exact ⟨by first | rfl | (simp; done) | (simp [*]; done), by repeat (first | exact Drawn0.refl _ | apply Drawn0.step)⟩
       ·
        rw [if_neg c7] at H
        have c7b0 : (((rd_T27 l0 x5_1).f0) == ((rd_T27 l1 x5_1).f0)) = false := beq_eq_false_iff_ne.mpr c7
        have c7b1 : (((rd_T27 l0 x5_1).f0) != ((rd_T27 l1 x5_1).f0)) = true := bne_iff_ne.mpr c7
        obtain rfl := Option.some.inj H
        have p115 : 0 ≤ (x5_1 : Int) := of_decide_eq_true (by first | (with_reducible assumption) | assumption)
        have q115 : x5_1 < (l0.length : Int) := of_decide_eq_true (by first | (with_reducible assumption) | assumption)
        obtain ⟨ad115, A115_1, c115_1, e115, hx115_0, hx115_1, hx115_2, hx115_3, hx115_4, hx115_5, hx115_6, hl115_1, hi115_1⟩ := at_T27 HR0.out x5_1 p115 q115
        cases e115
        have HR115_1 := Aside0.mk hi115_1
        have HC115_1 := Aside0.mk hl115_1
        clear hi115_1 hl115_1
        replace p115 := eq_true p115
        replace q115 := eq_true q115
        have p116 : 0 ≤ (x5_1 : Int) := of_decide_eq_true (by first | (with_reducible assumption) | assumption)
        have q116 : x5_1 < (l1.length : Int) := of_decide_eq_true (by first | (with_reducible assumption) | assumption)
        obtain ⟨ad116, A116_1, c116_1, e116, hx116_0, hx116_1, hx116_2, hx116_3, hx116_4, hx116_5, hx116_6, hl116_1, hi116_1⟩ := at_T27 HR1.out x5_1 p116 q116
        cases e116
        have HR116_1 := Aside0.mk hi116_1
        have HC116_1 := Aside0.mk hl116_1
        clear hi116_1 hl116_1
        replace p116 := eq_true p116
        replace q116 := eq_true q116
        go_wp2
        repeat ((first | (refine wp_region_quiet_lit (by kernel_rfl) (by first | exact Option.some.inj quoinref19_Same.lexf | kernel_rfl) ?_; (repeat (go_big_quiet_step (fail))); refine wpQuiet_nil ?_; intro _ hw'; obtain ⟨nq, hw''⟩ := hw'; subst hw'') | (refine wp_region_quiet_lit (by kernel_rfl) (by first | exact Option.some.inj quoinref19_Same.lexf | kernel_rfl) ?_; (repeat (quiet_step (fail))); refine wpQuiet_nil ?_; intro _ hw'; obtain ⟨nq, hw''⟩ := hw'; subst hw'')); try go_wp2)
        go_ret
        exact ⟨by first | rfl | (simp; done) | (simp [*]; done), by repeat (first | exact Drawn0.refl _ | apply Drawn0.step)⟩
      ·
       rw [if_neg c6] at H
       exact absurd H (by simp)
     ·
      rw [if_neg c5] at H
      exact absurd H (by simp)
    ·
     rw [if_neg c4] at H
     have c4b0 : decide (x5_1 < (l0.length : Int)) = false := decide_eq_false c4
     clear c4
     obtain rfl := Option.some.inj H
     go_wp2
     repeat ((first | (refine wp_region_quiet_lit (by kernel_rfl) (by first | exact Option.some.inj quoinref19_Same.lexf | kernel_rfl) ?_; (repeat (go_big_quiet_step (fail))); refine wpQuiet_nil ?_; intro _ hw'; obtain ⟨nq, hw''⟩ := hw'; subst hw'') | (refine wp_region_quiet_lit (by kernel_rfl) (by first | exact Option.some.inj quoinref19_Same.lexf | kernel_rfl) ?_; (repeat (quiet_step (fail))); refine wpQuiet_nil ?_; intro _ hw'; obtain ⟨nq, hw''⟩ := hw'; subst hw'')); try go_wp2)
     go_ret
     exact ⟨by first | rfl | (simp; done) | (simp [*]; done), by repeat (first | exact Drawn0.refl _ | apply Drawn0.step)⟩
 ·
  rw [if_neg c3] at H
  have c3b0 : ((l0.length : Int) == (l1.length : Int)) = false := beq_eq_false_iff_ne.mpr c3
  have c3b1 : ((l0.length : Int) != (l1.length : Int)) = true := bne_iff_ne.mpr c3
  have c3b2 : (l0.length == l1.length) = false := by first | simpa using c3 | (simp at c3 ⊢; omega)
  obtain rfl := Option.some.inj H
  go_enter Try.func6, Try.ntmps6
  go_wp2
  repeat ((first | (refine wp_region_quiet_lit (by kernel_rfl) (by first | exact Option.some.inj quoinref19_Same.lexf | kernel_rfl) ?_; (repeat (go_big_quiet_step (fail))); refine wpQuiet_nil ?_; intro _ hw'; obtain ⟨nq, hw''⟩ := hw'; subst hw'') | (refine wp_region_quiet_lit (by kernel_rfl) (by first | exact Option.some.inj quoinref19_Same.lexf | kernel_rfl) ?_; (repeat (quiet_step (fail))); refine wpQuiet_nil ?_; intro _ hw'; obtain ⟨nq, hw''⟩ := hw'; subst hw'')); try go_wp2)
  go_ret
  exact ⟨by first | rfl | (simp; done) | (simp [*]; done), by repeat (first | exact Drawn0.refl _ | apply Drawn0.step)⟩

/-! ### quoinlaw19_ExpandSame: function 3 -/
def quoinlaw19_ExpandSame.j0 : Nat → List (S27) → List (S27) → Bool → Option (Bool)
 | 0, _, _, _ => none
 | k + 1, x0, x1, x10 => if x10 = true then (some true) else ((expand_Same.f k x0 x1).bind fun t131 => ((quoinref19_Same.f k x0 x1).bind fun t132 => (if t131 = true then (some t132) else (some (!t132)))))
def quoinlaw19_ExpandSame.f (k : Nat) (l0 : List (S27)) (l1 : List (S27)) : Option (Bool) := (quoinref19_Great.f k l0).bind fun t129 => (if t129 = true then (quoinlaw19_ExpandSame.j0 k l0 l1 true) else ((quoinref19_Great.f k l1).bind fun t130 => (quoinlaw19_ExpandSame.j0 k l0 l1 t130)))
theorem quoinlaw19_ExpandSame.mono_l : ∀ k, (∀ y0 y1 y2, LeO (quoinlaw19_ExpandSame.j0 k y0 y1 y2) (quoinlaw19_ExpandSame.j0 (k + 1) y0 y1 y2))
 | 0 => fun _ _ _ r h => by simp [quoinlaw19_ExpandSame.j0] at h
 | k + 1 => by
  have ih0 := quoinlaw19_ExpandSame.mono_l k
  ·
   intro y0 y1 y2
   unfold quoinlaw19_ExpandSame.j0
   repeat' first
   | (with_reducible exact ih0 _ _ _)
   | (with_reducible exact expand_Same.mono _ _ _)
   | (with_reducible exact quoinref19_Great.mono _ _)
   | (with_reducible exact quoinref19_Same.mono _ _ _)
   | (with_reducible exact LeO.refl _)
   | (with_reducible exact LeO.none _)
   | (with_reducible refine LeO.ite ?_ ?_)
   | (with_reducible refine LeO.bind ?_ (fun _ => ?_))
   | exact ih0 _ _ _
   | exact expand_Same.mono _ _ _
   | exact quoinref19_Great.mono _ _
   | exact quoinref19_Same.mono _ _ _
   | exact LeO.none _
   | refine LeO.ite ?_ ?_
   | refine LeO.bind ?_ (fun _ => ?_)
theorem quoinlaw19_ExpandSame.mono : ∀ a0 a1 k, LeO (quoinlaw19_ExpandSame.f k a0 a1) (quoinlaw19_ExpandSame.f (k + 1) a0 a1) := by
 intro a0 a1 k
 have ih0 := quoinlaw19_ExpandSame.mono_l k
 unfold quoinlaw19_ExpandSame.f
 repeat' first
   | (with_reducible exact ih0 _ _ _)
   | (with_reducible exact expand_Same.mono _ _ _)
   | (with_reducible exact quoinref19_Great.mono _ _)
   | (with_reducible exact quoinref19_Same.mono _ _ _)
   | (with_reducible exact LeO.refl _)
   | (with_reducible exact LeO.none _)
   | (with_reducible refine LeO.ite ?_ ?_)
   | (with_reducible refine LeO.bind ?_ (fun _ => ?_))
   | exact ih0 _ _ _
   | exact expand_Same.mono _ _ _
   | exact quoinref19_Great.mono _ _
   | exact quoinref19_Same.mono _ _ _
   | exact LeO.none _
   | refine LeO.ite ?_ ?_
   | refine LeO.bind ?_ (fun _ => ?_)
set_option maxHeartbeats 8000000 in
set_option maxRecDepth 100000 in
theorem quoinlaw19_ExpandSame.calls (k : Nat) (A0 : Option Addr) (c0 : Nat) (l0 : List (S27)) (A1 : Option Addr) (c1 : Nat) (l1 : List (S27)) (r : Bool) (w : World) (hr0 : Kd.C k27 w A0 l0.length l0) (hc0 : l0.length ≤ c0) (hr1 : Kd.C k27 w A1 l1.length l1) (hc1 : l1.length ≤ c1) (h : quoinlaw19_ExpandSame.f k l0 l1 = some r) :
  Calls Try.prog 3 #[.slice A0 l0.length c0, .slice A1 l1.length c1] w fun e w' => e = .returned (.bool r) ∧ Below w.heap.size w w' := by
 have HR0 := Aside0.mk hr0
 have HC0 := Aside0.mk hc0
 clear hr0 hc0
 have HR1 := Aside0.mk hr1
 have HC1 := Aside0.mk hc1
 clear hr1 hc1
 have HB := Aside0.mk (Below.refl w.heap.size w)
 have H : ((quoinref19_Great.f k l0).bind fun t129 => (if t129 = true then (quoinlaw19_ExpandSame.j0 k l0 l1 true) else ((quoinref19_Great.f k l1).bind fun t130 => (quoinlaw19_ExpandSame.j0 k l0 l1 t130)))) = some r := h
 clear h
 have HC3 := Aside0.mk H
 clear H
 go_enter Try.func3, Try.ntmps3
 go_upto_region 1 with (fail)
 go_cut [10] (fun v10 wc => ∃ (kq : Nat) (x10_2 : Bool), v10 = .bool x10_2 ∧ Aside0 (quoinlaw19_ExpandSame.j0 kq l0 l1 x10_2 = some r) ∧ Aside0 (kq ≤ k) ∧ Aside0 (Below w.heap.size w wc))
 case first =>
  have H := HC3.out
  clear HC3
  replace H := Option.bind_eq_some_iff.mp H
  obtain ⟨t129, A40, H⟩ := H
  replace H : (if t129 = true then (quoinlaw19_ExpandSame.j0 k l0 l1 true) else ((quoinref19_Great.f k l1).bind fun t130 => (quoinlaw19_ExpandSame.j0 k l0 l1 t130))) = some r := H
  have A4 := Aside0.mk A40
  clear A40
  by_cases c5 : t129 = true
  ·
   subst c5
   have H1 : (quoinlaw19_ExpandSame.j0 k l0 l1 true) = some r := by rw [if_pos rfl] at H; exact H
   clear H
   have H := H1
   clear H1
   have H' := Aside0.mk H
   clear H
   go_wp2_with (first | ((with_reducible refine gate_callee (f := 4) rfl ?_); refine goesL_ (some 6) rfl rfl Try.func4 (by kernel_rfl) rfl #[.slice A0 l0.length c0] rfl (by (try simp only [List.map_toArray, List.map_cons, List.map_nil]); first | done | rfl | (simp only [List.length_drop, List.length_take]; rfl)) ?_; (with_reducible refine (quoinref19_Great.calls k _ _ l0 true _ ?side1 ?side2 A4.out).mono ?_); (case side1 => repeat (first | exact (Kd.C_below HR0.out HB.out) | (with_reducible refine Kd.C_alloc ?_ _) | (with_reducible refine Kd.C_drewN ?_ _) | (with_reducible refine Kd.C_drew ?_))); (case side2 => exact HC0.out); rintro e w6 ⟨rfl, hb⟩; refine ⟨_, rfl, ?_⟩; have n0_ := Aside0.mk (below_step (by repeat (first | (with_reducible first | exact HB.out | apply below_alloc | apply pw_below_drewN | apply below_drew1) | exact HB.out)) hb); clear HB; have HB := n0_; clear n0_; (try clear hb); (try clear hb2); (try clear hk); (try clear hi)))
   go_meet
   case rel => exact ⟨_, (true), (by first | rfl | (simp; done) | (simp [*]; done)), H', ⟨by first | omega | exact Nat.le_refl _⟩, ⟨by repeat (first | (with_reducible first | exact HB.out | apply below_alloc | apply pw_below_drewN | apply below_drew1) | exact HB.out)⟩⟩
  ·
   replace c5 := Bool.eq_false_iff.mpr c5
   subst c5
   have H1 : ((quoinref19_Great.f k l1).bind fun t130 => (quoinlaw19_ExpandSame.j0 k l0 l1 t130)) = some r := by rw [if_neg (show ¬ (false = true) by decide)] at H; exact H
   clear H
   have H := H1
   clear H1
   replace H := Option.bind_eq_some_iff.mp H
   obtain ⟨t130, A70, H⟩ := H
   replace H : (quoinlaw19_ExpandSame.j0 k l0 l1 t130) = some r := H
   have A7 := Aside0.mk A70
   clear A70
   have H' := Aside0.mk H
   clear H
   go_wp2_with (first | ((with_reducible refine gate_callee (f := 4) rfl ?_); refine goesL_ (some 6) rfl rfl Try.func4 (by kernel_rfl) rfl #[.slice A0 l0.length c0] rfl (by (try simp only [List.map_toArray, List.map_cons, List.map_nil]); first | done | rfl | (simp only [List.length_drop, List.length_take]; rfl)) ?_; (with_reducible refine (quoinref19_Great.calls k _ _ l0 false _ ?side1 ?side2 A4.out).mono ?_); (case side1 => repeat (first | exact (Kd.C_below HR0.out HB.out) | (with_reducible refine Kd.C_alloc ?_ _) | (with_reducible refine Kd.C_drewN ?_ _) | (with_reducible refine Kd.C_drew ?_))); (case side2 => exact HC0.out); rintro e w8 ⟨rfl, hb⟩; refine ⟨_, rfl, ?_⟩; have n0_ := Aside0.mk (below_step (by repeat (first | (with_reducible first | exact HB.out | apply below_alloc | apply pw_below_drewN | apply below_drew1) | exact HB.out)) hb); clear HB; have HB := n0_; clear n0_; (try clear hb); (try clear hb2); (try clear hk); (try clear hi)) | (go_at_call 4; (with_reducible refine (quoinref19_Great.calls k _ _ l1 t130 _ ?side1 ?side2 A7.out).mono ?_); (case side1 => repeat (first | exact (Kd.C_below HR1.out HB.out) | (with_reducible refine Kd.C_alloc ?_ _) | (with_reducible refine Kd.C_drewN ?_ _) | (with_reducible refine Kd.C_drew ?_))); (case side2 => exact HC1.out); rintro e w9 ⟨rfl, hb⟩; have n0_ := Aside0.mk (below_step (by repeat (first | (with_reducible first | exact HB.out | apply below_alloc | apply pw_below_drewN | apply below_drew1) | exact HB.out)) hb); clear HB; have HB := n0_; clear n0_; (try clear hb); (try clear hb2); (try clear hk); (try clear hi)))
   go_meet
   case rel => exact ⟨_, (t130), (by first | rfl | (simp; done) | (simp [*]; done)), H', ⟨by first | omega | exact Nat.le_refl _⟩, ⟨by repeat (first | (with_reducible first | exact HB.out | apply below_alloc | apply pw_below_drewN | apply below_drew1) | exact HB.out)⟩⟩
 case rest =>
  clear HC3
  try clear c1
  try clear p2
  try clear c3
  try clear c4
  try clear c5
  obtain ⟨kq, x10_2, rfl, HA, HJ2, HB⟩ := hcut
  cases kq with
  | zero => exact absurd HA.out (by simp [quoinlaw19_ExpandSame.j0])
  | succ kj2 =>
   have H := HA.out
   clear HA
   simp only [quoinlaw19_ExpandSame.j0] at H
   by_cases c10 : x10_2 = true
   ·
    subst c10
    have H1 : (some true) = some r := by rw [if_pos rfl] at H; exact H
    clear H
    have H := H1
    clear H1
    obtain rfl := Option.some.inj H
    go_wp2
    go_ret
    exact ⟨by first | rfl | (simp [errW_none, errW_some] <;> rfl) | (simp [*, errW_none, errW_some] <;> rfl), by repeat (first | (with_reducible first | exact HB.out | apply below_alloc | apply pw_below_drewN | apply below_drew1) | exact HB.out)⟩
   ·
    replace c10 := Bool.eq_false_iff.mpr c10
    subst c10
    have H1 : ((expand_Same.f kj2 l0 l1).bind fun t131 => ((quoinref19_Same.f kj2 l0 l1).bind fun t132 => (if t131 = true then (some t132) else (some (!t132))))) = some r := by rw [if_neg (show ¬ (false = true) by decide)] at H; exact H
    clear H
    have H := H1
    clear H1
    replace H := Option.bind_eq_some_iff.mp H
    obtain ⟨t131, A110, H⟩ := H
    replace H : ((quoinref19_Same.f kj2 l0 l1).bind fun t132 => (if t131 = true then (some t132) else (some (!t132)))) = some r := H
    have A11 := Aside0.mk A110
    clear A110
    replace H := Option.bind_eq_some_iff.mp H
    obtain ⟨t132, A120, H⟩ := H
    replace H : (if t131 = true then (some t132) else (some (!t132))) = some r := H
    have A12 := Aside0.mk A120
    clear A120
    by_cases c13 : t131 = true
    ·
     subst c13
     have H1 : (some t132) = some r := by rw [if_pos rfl] at H; exact H
     clear H
     have H := H1
     clear H1
     obtain rfl := Option.some.inj H
     go_wp2_with (first | ((with_reducible refine gate_callee (f := 5) rfl ?_); refine goesL_ (some 13) rfl rfl Try.func5 (by kernel_rfl) rfl #[.slice A0 l0.length c0, .slice A1 l1.length c1] rfl (by (try simp only [List.map_toArray, List.map_cons, List.map_nil]); first | done | rfl | (simp only [List.length_drop, List.length_take]; rfl)) ?_; (with_reducible refine (expand_Same.calls kj2 _ _ l0 _ _ l1 true _ ?side1 ?side2 ?side3 ?side4 A11.out).mono ?_); (case side1 => repeat (first | exact (Kd.C_below HR0.out HB.out) | (with_reducible refine Kd.C_alloc ?_ _) | (with_reducible refine Kd.C_drewN ?_ _) | (with_reducible refine Kd.C_drew ?_))); (case side2 => exact HC0.out); (case side3 => repeat (first | exact (Kd.C_below HR1.out HB.out) | (with_reducible refine Kd.C_alloc ?_ _) | (with_reducible refine Kd.C_drewN ?_ _) | (with_reducible refine Kd.C_drew ?_))); (case side4 => exact HC1.out); rintro e w14 ⟨rfl, hb⟩; refine ⟨_, rfl, ?_⟩; have n0_ := Aside0.mk (below_step (by repeat (first | (with_reducible first | exact HB.out | apply below_alloc | apply pw_below_drewN | apply below_drew1) | exact HB.out)) hb); clear HB; have HB := n0_; clear n0_; (try clear hb); (try clear hb2); (try clear hk); (try clear hi)) | ((with_reducible refine gate_callee (f := 6) rfl ?_); refine goesL_ (some 16) rfl rfl Try.func6 (by kernel_rfl) rfl #[.slice A0 l0.length c0, .slice A1 l1.length c1] rfl (by (try simp only [List.map_toArray, List.map_cons, List.map_nil]); first | done | rfl | (simp only [List.length_drop, List.length_take]; rfl)) ?_; (with_reducible refine (quoinref19_Same.calls kj2 _ _ l0 _ _ l1 t132 _ ?side1 ?side2 ?side3 ?side4 A12.out).mono ?_); (case side1 => repeat (first | exact (Kd.C_below HR0.out HB.out) | (with_reducible refine Kd.C_alloc ?_ _) | (with_reducible refine Kd.C_drewN ?_ _) | (with_reducible refine Kd.C_drew ?_))); (case side2 => exact HC0.out); (case side3 => repeat (first | exact (Kd.C_below HR1.out HB.out) | (with_reducible refine Kd.C_alloc ?_ _) | (with_reducible refine Kd.C_drewN ?_ _) | (with_reducible refine Kd.C_drew ?_))); (case side4 => exact HC1.out); rintro e w' ⟨rfl, ⟨nd, rfl⟩⟩; refine ⟨_, rfl, ?_⟩))
     go_ret
     exact ⟨by first | rfl | (simp [errW_none, errW_some] <;> rfl) | (simp [*, errW_none, errW_some] <;> rfl), by repeat (first | (with_reducible first | exact HB.out | apply below_alloc | apply pw_below_drewN | apply below_drew1) | exact HB.out)⟩
    ·
     replace c13 := Bool.eq_false_iff.mpr c13
     subst c13
     have H1 : (some (!t132)) = some r := by rw [if_neg (show ¬ (false = true) by decide)] at H; exact H
     clear H
     have H := H1
     clear H1
     obtain rfl := Option.some.inj H
     go_wp2_with (first | ((with_reducible refine gate_callee (f := 5) rfl ?_); refine goesL_ (some 13) rfl rfl Try.func5 (by kernel_rfl) rfl #[.slice A0 l0.length c0, .slice A1 l1.length c1] rfl (by (try simp only [List.map_toArray, List.map_cons, List.map_nil]); first | done | rfl | (simp only [List.length_drop, List.length_take]; rfl)) ?_; (with_reducible refine (expand_Same.calls kj2 _ _ l0 _ _ l1 false _ ?side1 ?side2 ?side3 ?side4 A11.out).mono ?_); (case side1 => repeat (first | exact (Kd.C_below HR0.out HB.out) | (with_reducible refine Kd.C_alloc ?_ _) | (with_reducible refine Kd.C_drewN ?_ _) | (with_reducible refine Kd.C_drew ?_))); (case side2 => exact HC0.out); (case side3 => repeat (first | exact (Kd.C_below HR1.out HB.out) | (with_reducible refine Kd.C_alloc ?_ _) | (with_reducible refine Kd.C_drewN ?_ _) | (with_reducible refine Kd.C_drew ?_))); (case side4 => exact HC1.out); rintro e w15 ⟨rfl, hb⟩; refine ⟨_, rfl, ?_⟩; have n0_ := Aside0.mk (below_step (by repeat (first | (with_reducible first | exact HB.out | apply below_alloc | apply pw_below_drewN | apply below_drew1) | exact HB.out)) hb); clear HB; have HB := n0_; clear n0_; (try clear hb); (try clear hb2); (try clear hk); (try clear hi)) | ((with_reducible refine gate_callee (f := 6) rfl ?_); refine goesL_ (some 16) rfl rfl Try.func6 (by kernel_rfl) rfl #[.slice A0 l0.length c0, .slice A1 l1.length c1] rfl (by (try simp only [List.map_toArray, List.map_cons, List.map_nil]); first | done | rfl | (simp only [List.length_drop, List.length_take]; rfl)) ?_; (with_reducible refine (quoinref19_Same.calls kj2 _ _ l0 _ _ l1 t132 _ ?side1 ?side2 ?side3 ?side4 A12.out).mono ?_); (case side1 => repeat (first | exact (Kd.C_below HR0.out HB.out) | (with_reducible refine Kd.C_alloc ?_ _) | (with_reducible refine Kd.C_drewN ?_ _) | (with_reducible refine Kd.C_drew ?_))); (case side2 => exact HC0.out); (case side3 => repeat (first | exact (Kd.C_below HR1.out HB.out) | (with_reducible refine Kd.C_alloc ?_ _) | (with_reducible refine Kd.C_drewN ?_ _) | (with_reducible refine Kd.C_drew ?_))); (case side4 => exact HC1.out); rintro e w' ⟨rfl, ⟨nd, rfl⟩⟩; refine ⟨_, rfl, ?_⟩))
     go_ret
     exact ⟨by first | rfl | (simp [errW_none, errW_some] <;> rfl) | (simp [*, errW_none, errW_some] <;> rfl), by repeat (first | (with_reducible first | exact HB.out | apply below_alloc | apply pw_below_drewN | apply below_drew1) | exact HB.out)⟩

/-- THE ONE PURE STATEMENT of quoinlaw19_ExpandSame: yours. -/
def quoinlaw19_ExpandSame.Pure : Prop := ∀ (l0 : List (S27)) (l1 : List (S27)), (l0.length ≤ maxLen ∧ ∀ x0_ ∈ l0, wfS27 x0_) → (l1.length ≤ maxLen ∧ ∀ x0_ ∈ l1, wfS27 x0_) → ∃ k, quoinlaw19_ExpandSame.f k l0 l1 = some true
theorem quoinlaw19_ExpandSame.walk (P : quoinlaw19_ExpandSame.Pure) (A0 : Option Addr) (c0 : Nat) (l0 : List (S27)) (A1 : Option Addr) (c1 : Nat) (l1 : List (S27)) (w : World) (hr0 : Kd.C k27 w A0 l0.length l0) (hc0 : l0.length ≤ c0) (hr1 : Kd.C k27 w A1 l1.length l1) (hc1 : l1.length ≤ c1) (w0_0 : (l0.length ≤ maxLen ∧ ∀ x0_ ∈ l0, wfS27 x0_)) (w1_0 : (l1.length ≤ maxLen ∧ ∀ x0_ ∈ l1, wfS27 x0_)) :
  Calls Try.prog 3 #[.slice A0 l0.length c0, .slice A1 l1.length c1] w fun e w' => e = .returned (.bool true) ∧ Below w.heap.size w w' := by
 obtain ⟨k, h⟩ := P l0 l1 w0_0 w1_0
 refine (quoinlaw19_ExpandSame.calls k A0 c0 l0 A1 c1 l1 true w hr0 hc0 hr1 hc1 h).mono ?_
 rintro e w' ⟨rfl, hd⟩
 exact ⟨rfl, hd⟩

end Go.Proofs.Ytdhkmaiidbomdaa.P
