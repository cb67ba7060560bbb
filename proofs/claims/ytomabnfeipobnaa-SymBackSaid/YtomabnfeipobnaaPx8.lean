-- Written by pext.py, a program of this session, over the kit's print: a function's contract
import Derived.Test.YtomabnfeipobnaaPx0
import Derived.Test.YtomabnfeipobnaaPx5
import Derived.Test.YtomabnfeipobnaaPx6
namespace Go.Proofs.Ytomabnfeipobnaa.P
open Go.RowKit Go.Proofs.YtomabnfeipobnaaW.PrintWords Go.Proofs.YtomabnfeipobnaaW.PrintLast Go.Proofs.YtomabnfeipobnaaW.PrintMore
attribute [local go_sem] max2_int min2_int max_two min_two max_three min_three max_four min_four   -- for this text's walks alone
set_option linter.unusedVariables false
set_option linter.unusedSimpArgs false

/-! ### sym_in: function 87 -/
def sym_in.f (a0 : Int) (a1 : Int) (a2 : Int) : Option (Bool) := if a0 ≥ a1 then (some (decide (a0 ≤ a2))) else (some false)
set_option maxHeartbeats 8000000 in
set_option maxRecDepth 100000 in
theorem sym_in.calls (a0 : Int) (a1 : Int) (a2 : Int) (r : Bool) (w : World) (h : sym_in.f a0 a1 a2 = some r) :
  Calls Try.prog 87 #[.int .i64 a0, .int .i64 a1, .int .i64 a2] w fun e w' => e = .returned (.bool r) ∧ Drawn0 w w' := by
 have H : (if a0 ≥ a1 then (some (decide (a0 ≤ a2))) else (some false)) = some r := h
 clear h
 by_cases c4 : a0 ≥ a1
 ·
  rw [if_pos c4] at H
  have c4b0 : decide (a1 ≤ a0) = true := decide_eq_true c4
  clear c4
  obtain rfl := Option.some.inj H
  go_enter Try.func87, Try.ntmps87
  go_wp2
  go_ret
  exact ⟨by first | rfl | (simp; done) | (simp [*]; done), by repeat (first | exact Drawn0.refl _ | apply Drawn0.step)⟩
 ·
  rw [if_neg c4] at H
  have c4b0 : decide (a1 ≤ a0) = false := decide_eq_false c4
  clear c4
  obtain rfl := Option.some.inj H
  go_enter Try.func87, Try.ntmps87
  go_wp2
  go_ret
  exact ⟨by first | rfl | (simp; done) | (simp [*]; done), by repeat (first | exact Drawn0.refl _ | apply Drawn0.step)⟩

/-! ### sym_named: function 88 -/
mutual
def sym_named.j0 : Nat → ByteArray → Bool → Option (Bool)
 | 0, _, _ => none
 | k + 1, x0, x11 => if x11 = true then (some false) else (sym_named.l0 k x0 (x0.size : Int) 0)
def sym_named.l0 : Nat → ByteArray → Int → Int → Option (Bool)
 | 0, _, _, _ => none
 | k + 1, x0, x13, x14 => if x14 < x13 then (if 0 ≤ x14 then (if x14 < (x0.size : Int) then (if (bt x0 x14) < 33 then (some false) else (if (bt x0 x14) > 126 then (some false) else (sym_named.l0 k x0 x13 (wrap64 (x14 + 1))))) else (none)) else (none)) else (some true)
end
def sym_named.f (k : Nat) (a0 : ByteArray) : Option (Bool) := if a0.toList = ([] : List UInt8) then (sym_named.j0 k a0 true) else (sym_named.j0 k a0 (decide ((a0.size : Int) > 32)))
theorem sym_named.mono_l : ∀ k, (∀ y0 y1, LeO (sym_named.j0 k y0 y1) (sym_named.j0 (k + 1) y0 y1)) ∧ (∀ y0 y1 y2, LeO (sym_named.l0 k y0 y1 y2) (sym_named.l0 (k + 1) y0 y1 y2))
 | 0 => ⟨fun _ _ r h => by simp [sym_named.j0] at h, fun _ _ _ r h => by simp [sym_named.l0] at h⟩
 | k + 1 => by
  obtain ⟨ih0, ih1⟩ := sym_named.mono_l k
  refine ⟨?_, ?_⟩
  ·
   intro y0 y1
   unfold sym_named.j0
   repeat' first
   | (with_reducible exact ih0 _ _)
   | (with_reducible exact ih1 _ _ _)
   | (with_reducible exact LeO.refl _)
   | (with_reducible exact LeO.none _)
   | (with_reducible refine LeO.ite ?_ ?_)
   | (with_reducible refine LeO.bind ?_ (fun _ => ?_))
   | exact ih0 _ _
   | exact ih1 _ _ _
   | exact LeO.none _
   | refine LeO.ite ?_ ?_
   | refine LeO.bind ?_ (fun _ => ?_)
  ·
   intro y0 y1 y2
   unfold sym_named.l0
   repeat' first
   | (with_reducible exact ih0 _ _)
   | (with_reducible exact ih1 _ _ _)
   | (with_reducible exact LeO.refl _)
   | (with_reducible exact LeO.none _)
   | (with_reducible refine LeO.ite ?_ ?_)
   | (with_reducible refine LeO.bind ?_ (fun _ => ?_))
   | exact ih0 _ _
   | exact ih1 _ _ _
   | exact LeO.none _
   | refine LeO.ite ?_ ?_
   | refine LeO.bind ?_ (fun _ => ?_)
theorem sym_named.mono : ∀ a0 k, LeO (sym_named.f k a0) (sym_named.f (k + 1) a0) := by
 intro a0 k
 obtain ⟨ih0, ih1⟩ := sym_named.mono_l k
 unfold sym_named.f
 repeat' first
   | (with_reducible exact ih0 _ _)
   | (with_reducible exact ih1 _ _ _)
   | (with_reducible exact LeO.refl _)
   | (with_reducible exact LeO.none _)
   | (with_reducible refine LeO.ite ?_ ?_)
   | (with_reducible refine LeO.bind ?_ (fun _ => ?_))
   | exact ih0 _ _
   | exact ih1 _ _ _
   | exact LeO.none _
   | refine LeO.ite ?_ ?_
   | refine LeO.bind ?_ (fun _ => ?_)
set_option maxHeartbeats 8000000 in
set_option maxRecDepth 100000 in
theorem sym_named.calls (k : Nat) (a0 : ByteArray) (r : Bool) (w : World) (h : sym_named.f k a0 = some r) :
  Calls Try.prog 88 #[.string a0] w fun e w' => e = .returned (.bool r) ∧ Drawn0 w w' := by
 have H : (if a0.toList = ([] : List UInt8) then (sym_named.j0 k a0 true) else (sym_named.j0 k a0 (decide ((a0.size : Int) > 32)))) = some r := h
 clear h
 have HC2 := Aside0.mk H
 clear H
 go_enter Try.func88, Try.ntmps88
 go_upto_region 1 with (fail)
 go_cut [11] (fun v11 wc => ∃ (kq : Nat) (x11_1 : Bool), v11 = .bool x11_1 ∧ Aside0 (sym_named.j0 kq a0 x11_1 = some r) ∧ Aside0 (kq ≤ k) ∧ Drawn0 w wc)
 case first =>
  have H := HC2.out
  clear HC2
  by_cases c3 : a0.toList = ([] : List UInt8)
  ·
   rw [if_pos c3] at H
   have c3b0 : (a0.toList == ([] : List UInt8)) = true := beq_iff_eq.mpr c3
   have c3b1 : (a0.toList != ([] : List UInt8)) = false := bne_eq_false_iff_eq.mpr c3
   clear c3
   (first | rw [c3b0] | (simp only [i64_w, i32_w]; rw [c3b0]) | skip)
   have H' := Aside0.mk H
   clear H
   go_wp2
   go_meet
   case rel => exact ⟨_, (true), (by first | rfl | (simp; done) | (simp [*]; done)), H', ⟨by first | omega | exact Nat.le_refl _⟩, by repeat (first | exact Drawn0.refl _ | apply Drawn0.step)⟩
  ·
   rw [if_neg c3] at H
   have c3b0 : (a0.toList == ([] : List UInt8)) = false := beq_eq_false_iff_ne.mpr c3
   have c3b1 : (a0.toList != ([] : List UInt8)) = true := bne_iff_ne.mpr c3
   (first | rw [c3b0] | (simp only [i64_w, i32_w]; rw [c3b0]) | skip)
   have H' := Aside0.mk H
   clear H
   go_wp2
   go_meet
   case rel => exact ⟨_, (decide ((a0.size : Int) > 32)), (by first | rfl | (simp; done) | (simp [*]; done)), H', ⟨by first | omega | exact Nat.le_refl _⟩, by repeat (first | exact Drawn0.refl _ | apply Drawn0.step)⟩
 case rest =>
  clear HC2
  try clear p2
  try clear c3
  try clear c3b0
  try clear c3b1
  obtain ⟨kq, x11_1, rfl, HA, HJ1, ⟨mc1, rfl⟩⟩ := hcut
  cases kq with
  | zero => exact absurd HA.out (by simp [sym_named.j0])
  | succ kj1 =>
   have H := HA.out
   clear HA
   simp only [sym_named.j0] at H
   by_cases c4 : x11_1 = true
   ·
    subst c4
    have H1 : (some false) = some r := by rw [if_pos rfl] at H; exact H
    clear H
    have H := H1
    clear H1
    obtain rfl := Option.some.inj H
    go_wp2
    go_ret
    exact ⟨by first | rfl | (simp; done) | (simp [*]; done), by repeat (first | exact Drawn0.refl _ | apply Drawn0.step)⟩
   ·
    replace c4 := Bool.eq_false_iff.mpr c4
    subst c4
    have H1 : (sym_named.l0 kj1 a0 (a0.size : Int) 0) = some r := by rw [if_neg (show ¬ (false = true) by decide)] at H; exact H
    clear H
    have H := H1
    clear H1
    have H' := Aside0.mk H
    clear H
    go_wp2
    go_loopg [14] kj1 (fun kq v14 w' => ∃ (x14_2 : Int), v14 = .int .i64 x14_2 ∧ Aside0 (sym_named.l0 kq a0 (a0.size : Int) x14_2 = some r) ∧ Aside0 (kq ≤ kj1) ∧ Drawn0 w w')
    case atStart => exact ⟨(0), (by first | rfl | (simp; done) | (simp [*]; done)), H', ⟨Nat.le_refl _⟩, by repeat (first | exact Drawn0.refl _ | apply Drawn0.step)⟩
    case round =>
     clear H'
     try clear c1
     try clear p2
     try clear c3
     try clear c3b0
     try clear c3b1
     try clear c4
     try clear p2
     obtain ⟨x14_2, rfl, HA, HK2, ⟨m2, rfl⟩⟩ := hrel
     cases gk with
     | zero => exact absurd HA.out (by simp [sym_named.l0])
     | succ k2 =>
      have H := HA.out
      clear HA
      simp only [sym_named.l0] at H
      by_cases c5 : x14_2 < (a0.size : Int)
      ·
       rw [if_pos c5] at H
       have c5b0 : decide (x14_2 < (a0.size : Int)) = true := decide_eq_true c5
       clear c5
       by_cases c6 : 0 ≤ x14_2
       ·
        rw [if_pos c6] at H
        have c6b0 : decide (0 ≤ x14_2) = true := decide_eq_true c6
        clear c6
        by_cases c7 : x14_2 < (a0.size : Int)
        ·
         rw [if_pos c7] at H
         have c7b0 : decide (x14_2 < (a0.size : Int)) = true := decide_eq_true c7
         clear c7
         by_cases c9 : (bt a0 x14_2) < 33
         ·
          rw [if_pos c9] at H
          have c9b0 : decide ((bt a0 x14_2) < 33) = true := decide_eq_true c9
          clear c9
          obtain rfl := Option.some.inj H
          have p8 : 0 ≤ (x14_2 : Int) := of_decide_eq_true (by first | (with_reducible assumption) | assumption)
          have q8 : x14_2 < (a0.size : Int) := of_decide_eq_true (by first | (with_reducible assumption) | assumption)
          have hx8 := bt_at a0 x14_2
          replace p8 := eq_true p8
          replace q8 := eq_true q8
          go_wp2
          go_ret
          exact ⟨by first | rfl | (simp; done) | (simp [*]; done), by repeat (first | exact Drawn0.refl _ | apply Drawn0.step)⟩
         ·
          rw [if_neg c9] at H
          have c9b0 : decide ((bt a0 x14_2) < 33) = false := decide_eq_false c9
          clear c9
          by_cases c10 : (bt a0 x14_2) > 126
          ·
           rw [if_pos c10] at H
           have c10b0 : decide (126 < (bt a0 x14_2)) = true := decide_eq_true c10
           clear c10
           obtain rfl := Option.some.inj H
           have p8 : 0 ≤ (x14_2 : Int) := of_decide_eq_true (by first | (with_reducible assumption) | assumption)
           have q8 : x14_2 < (a0.size : Int) := of_decide_eq_true (by first | (with_reducible assumption) | assumption)
           have hx8 := bt_at a0 x14_2
           replace p8 := eq_true p8
           replace q8 := eq_true q8
           go_wp2
           go_ret
           exact ⟨by first | rfl | (simp; done) | (simp [*]; done), by repeat (first | exact Drawn0.refl _ | apply Drawn0.step)⟩
          ·
           rw [if_neg c10] at H
           have c10b0 : decide (126 < (bt a0 x14_2)) = false := decide_eq_false c10
           clear c10
           have H' := Aside0.mk H
           clear H
           have p8 : 0 ≤ (x14_2 : Int) := of_decide_eq_true (by first | (with_reducible assumption) | assumption)
           have q8 : x14_2 < (a0.size : Int) := of_decide_eq_true (by first | (with_reducible assumption) | assumption)
           have hx8 := bt_at a0 x14_2
           replace p8 := eq_true p8
           replace q8 := eq_true q8
           go_wp2
           go_roundg k2
           case measure => have := HJ1.out; have := HK2.out; omega
           case rel => exact ⟨(wrap64 (x14_2 + 1)), (by first | rfl | (simp; done) | (simp [*]; done)), H', ⟨by have := HJ1.out; have := HK2.out; omega⟩, by repeat (first | exact Drawn0.refl _ | apply Drawn0.step)⟩
        ·
         rw [if_neg c7] at H
         exact absurd H (by simp)
       ·
        rw [if_neg c6] at H
        exact absurd H (by simp)
      ·
       rw [if_neg c5] at H
       have c5b0 : decide (x14_2 < (a0.size : Int)) = false := decide_eq_false c5
       clear c5
       obtain rfl := Option.some.inj H
       go_wp2
       go_ret
       exact ⟨by first | rfl | (simp; done) | (simp [*]; done), by repeat (first | exact Drawn0.refl _ | apply Drawn0.step)⟩

/-! ### sym_stands: function 89 -/
def sym_stands.j0 : Nat → Int → Bool → Bool → ByteArray → Int → Bool → Int → Int → Int → Option (Bool)
 | 0, _, _, _, _, _, _, _, _, _ => none
 | k + 1, x1, x5, x10, x584000, x584001, x584002, x584003, x584004, x584005 => if x10 = true then (some false) else (if x584003 = 0 then (if x5 = true then (some false) else (if x584004 = 0 then (some (x584005 == 0)) else (some false))) else (if x584003 = (-1) then ((sym_in.f x584004 (-2147483648) 4294967295).bind fun t584 => (if t584 = true then (some (x584005 == 0)) else (some false))) else (if x584003 = (-2) then ((sect_Check.f k (⟨#[46, 98, 115, 115]⟩ : ByteArray) x584004 ([] : List Int) 0).bind fun t585 => (if t585 = 0 then ((sym_in.f x584005 1 4096).bind fun t586 => (if t586 = true then (some (x584001 == 1)) else (some false))) else (some false))) else ((sym_in.f x584003 1 x1).bind fun t587 => (if t587 = true then ((sym_in.f x584004 0 4096).bind fun t588 => (if t588 = true then ((sym_in.f x584005 0 4096).bind fun t589 => (some t589)) else (some false))) else (some false))))))
def sym_stands.f (k : Nat) (a0_0 : ByteArray) (a0_1 : Int) (a0_2 : Bool) (a0_3 : Int) (a0_4 : Int) (a0_5 : Int) (a1 : Int) : Option (Bool) := if a0_1 > 2 then (sym_stands.j0 k a1 (a0_1 == 0) (decide (a0_1 > 2)) a0_0 a0_1 a0_2 a0_3 a0_4 a0_5) else (if a0_2 = true then (sym_stands.j0 k a1 (a0_1 == 0) (a0_1 == 0) a0_0 a0_1 a0_2 a0_3 a0_4 a0_5) else (sym_stands.j0 k a1 (a0_1 == 0) false a0_0 a0_1 a0_2 a0_3 a0_4 a0_5))
theorem sym_stands.mono_l : ∀ k, (∀ y0 y1 y2 y3 y4 y5 y6 y7 y8, LeO (sym_stands.j0 k y0 y1 y2 y3 y4 y5 y6 y7 y8) (sym_stands.j0 (k + 1) y0 y1 y2 y3 y4 y5 y6 y7 y8))
 | 0 => fun _ _ _ _ _ _ _ _ _ r h => by simp [sym_stands.j0] at h
 | k + 1 => by
  have ih0 := sym_stands.mono_l k
  ·
   intro y0 y1 y2 y3 y4 y5 y6 y7 y8
   unfold sym_stands.j0
   repeat' first
   | (with_reducible exact ih0 _ _ _ _ _ _ _ _ _)
   | (with_reducible exact sect_Check.mono _ _ _ _ _)
   | (with_reducible exact LeO.refl _)
   | (with_reducible exact LeO.none _)
   | (with_reducible refine LeO.ite ?_ ?_)
   | (with_reducible refine LeO.bind ?_ (fun _ => ?_))
   | exact ih0 _ _ _ _ _ _ _ _ _
   | exact sect_Check.mono _ _ _ _ _
   | exact LeO.none _
   | refine LeO.ite ?_ ?_
   | refine LeO.bind ?_ (fun _ => ?_)
theorem sym_stands.mono : ∀ a0 a1 a2 a3 a4 a5 a6 k, LeO (sym_stands.f k a0 a1 a2 a3 a4 a5 a6) (sym_stands.f (k + 1) a0 a1 a2 a3 a4 a5 a6) := by
 intro a0 a1 a2 a3 a4 a5 a6 k
 have ih0 := sym_stands.mono_l k
 unfold sym_stands.f
 repeat' first
   | (with_reducible exact ih0 _ _ _ _ _ _ _ _ _)
   | (with_reducible exact sect_Check.mono _ _ _ _ _)
   | (with_reducible exact LeO.refl _)
   | (with_reducible exact LeO.none _)
   | (with_reducible refine LeO.ite ?_ ?_)
   | (with_reducible refine LeO.bind ?_ (fun _ => ?_))
   | exact ih0 _ _ _ _ _ _ _ _ _
   | exact sect_Check.mono _ _ _ _ _
   | exact LeO.none _
   | refine LeO.ite ?_ ?_
   | refine LeO.bind ?_ (fun _ => ?_)
set_option maxHeartbeats 8000000 in
set_option maxRecDepth 100000 in
theorem sym_stands.calls (k : Nat) (a0_0 : ByteArray) (a0_1 : Int) (a0_2 : Bool) (a0_3 : Int) (a0_4 : Int) (a0_5 : Int) (a1 : Int) (r : Bool) (w : World) (h : sym_stands.f k a0_0 a0_1 a0_2 a0_3 a0_4 a0_5 a1 = some r) :
  Calls Try.prog 89 #[.agg #[.string a0_0, .int .u8 a0_1, .bool a0_2, .int .i64 a0_3, .int .i64 a0_4, .int .i64 a0_5], .int .i64 a1] w fun e w' => e = .returned (.bool r) ∧ Below w.heap.size w w' := by
 have hu64 := Try.underlying64
 have hu36 := Try.underlying36
 have HB := Aside0.mk (Below.refl w.heap.size w)
 have H : (if a0_1 > 2 then (sym_stands.j0 k a1 (a0_1 == 0) (decide (a0_1 > 2)) a0_0 a0_1 a0_2 a0_3 a0_4 a0_5) else (if a0_2 = true then (sym_stands.j0 k a1 (a0_1 == 0) (a0_1 == 0) a0_0 a0_1 a0_2 a0_3 a0_4 a0_5) else (sym_stands.j0 k a1 (a0_1 == 0) false a0_0 a0_1 a0_2 a0_3 a0_4 a0_5))) = some r := h
 clear h
 have HC3 := Aside0.mk H
 clear H
 go_enter Try.func89, Try.ntmps89
 go_upto_if 10 with (first | ((with_reducible refine gate_dst (N := 2) rfl ?_); refine box_event ?hg (N := 2) ?hd (cs := #[.string a0_0, .int .u8 a0_1, .bool a0_2, .int .i64 a0_3, .int .i64 a0_4, .int .i64 a0_5]) (t := 64) ?hr ?_; (case hd => rfl); (case hg => rfl); (case hr => first | (go_simp; done) | (go_simp; rfl)); intro gb583 hg w4 hbox hb; have n0_ := Aside0.mk (below_step (by repeat (first | (with_reducible first | exact HB.out | apply below_alloc | apply pw_below_drewN | apply below_drew1) | exact HB.out)) hb); have n1_ := Aside0.mk (hbox); have n2_ := Aside0.mk ((by rw [hg]; exact (below_size (by repeat (first | (with_reducible first | exact HB.out | apply below_alloc | apply pw_below_drewN | apply below_drew1) | exact HB.out))) : w.heap.size ≤ gb583)); have n3_ := Aside0.mk ((by rw [hg]; exact (below_size (by repeat (first | (with_reducible first | exact HB.out | apply below_alloc | apply pw_below_drewN | apply below_drew1) | exact HB.out))) : w.heap.size ≤ gb583)); clear HB; have HB := n0_; have BK583 := n1_; have GW583 := n2_; have GE583 := n3_; clear n0_ n1_ n2_ n3_; clear hb hbox hg; have hcz5_0 : w4.cell? ⟨gb583, 0, none⟩ = some (.string a0_0) := (blk_cell BK583.out 0).trans rfl; have hcz5_1 : w4.cell? ⟨gb583, 1, none⟩ = some (.int .u8 a0_1) := (blk_cell BK583.out 1).trans rfl; have hcz5_2 : w4.cell? ⟨gb583, 2, none⟩ = some (.bool a0_2) := (blk_cell BK583.out 2).trans rfl; have hcz5_3 : w4.cell? ⟨gb583, 3, none⟩ = some (.int .i64 a0_3) := (blk_cell BK583.out 3).trans rfl; have hcz5_4 : w4.cell? ⟨gb583, 4, none⟩ = some (.int .i64 a0_4) := (blk_cell BK583.out 4).trans rfl; have hcz5_5 : w4.cell? ⟨gb583, 5, none⟩ = some (.int .i64 a0_5) := (blk_cell BK583.out 5).trans rfl; have hfz5_0 := blk_frozen BK583.out 0; have hfz5_1 := blk_frozen BK583.out 1; have hfz5_2 := blk_frozen BK583.out 2; have hfz5_3 := blk_frozen BK583.out 3; have hfz5_4 := blk_frozen BK583.out 4; have hfz5_5 := blk_frozen BK583.out 5))
 (try simp only [Act.put, List.setIfInBounds_toArray, List.set_cons_zero, List.set_cons_succ])
 go_cut [10] (fun v10 wc => ∃ (kq : Nat) (x10_2 : Bool), v10 = .bool x10_2 ∧ Aside0 (sym_stands.j0 kq a1 (a0_1 == 0) x10_2 a0_0 a0_1 a0_2 a0_3 a0_4 a0_5 = some r) ∧ Aside0 (kq ≤ k) ∧ Aside0 (wc.heap[gb583]? = some (.cells #[.string a0_0, .int .u8 a0_1, .bool a0_2, .int .i64 a0_3, .int .i64 a0_4, .int .i64 a0_5] 64 (0, 0))) ∧ Aside0 (Below w.heap.size w wc))
 case first =>
  have H := HC3.out
  clear HC3
  by_cases c6 : a0_1 > 2
  ·
   rw [if_pos c6] at H
   have c6b0 : decide (2 < a0_1) = true := decide_eq_true c6
   clear c6
   (first | rw [c6b0] | (simp only [i64_w, i32_w]; rw [c6b0]) | skip)
   have H' := Aside0.mk H
   clear H
   go_wp2
   go_meet
   case rel => exact ⟨_, (decide (a0_1 > 2)), (by first | rfl | (simp; done) | (simp [*]; done)), H', ⟨by first | omega | exact Nat.le_refl _⟩, ⟨by (with_reducible repeat (first | refine blk_drewN ?_ _ | refine blk_drew ?_ | refine blk_alloc ?_ _)); exact BK583.out⟩, ⟨by repeat (first | (with_reducible first | exact HB.out | apply below_alloc | apply pw_below_drewN | apply below_drew1 | refine below_set ?_ GE583.out) | exact HB.out)⟩⟩
  ·
   rw [if_neg c6] at H
   have c6b0 : decide (2 < a0_1) = false := decide_eq_false c6
   clear c6
   (first | rw [c6b0] | (simp only [i64_w, i32_w]; rw [c6b0]) | skip)
   by_cases c7 : a0_2 = true
   ·
    subst c7
    have H1 : (sym_stands.j0 k a1 (a0_1 == 0) (a0_1 == 0) a0_0 a0_1 true a0_3 a0_4 a0_5) = some r := by rw [if_pos rfl] at H; exact H
    clear H
    have H := H1
    clear H1
    have H' := Aside0.mk H
    clear H
    have hcz8_0 : w4.cell? ⟨gb583, 0, none⟩ = some (.string a0_0) := (blk_cell BK583.out 0).trans rfl
    have hcz8_1 : w4.cell? ⟨gb583, 1, none⟩ = some (.int .u8 a0_1) := (blk_cell BK583.out 1).trans rfl
    have hcz8_2 : w4.cell? ⟨gb583, 2, none⟩ = some (.bool true) := (blk_cell BK583.out 2).trans rfl
    have hcz8_3 : w4.cell? ⟨gb583, 3, none⟩ = some (.int .i64 a0_3) := (blk_cell BK583.out 3).trans rfl
    have hcz8_4 : w4.cell? ⟨gb583, 4, none⟩ = some (.int .i64 a0_4) := (blk_cell BK583.out 4).trans rfl
    have hcz8_5 : w4.cell? ⟨gb583, 5, none⟩ = some (.int .i64 a0_5) := (blk_cell BK583.out 5).trans rfl
    have hfz8_0 := blk_frozen BK583.out 0
    have hfz8_1 := blk_frozen BK583.out 1
    have hfz8_2 := blk_frozen BK583.out 2
    have hfz8_3 := blk_frozen BK583.out 3
    have hfz8_4 := blk_frozen BK583.out 4
    have hfz8_5 := blk_frozen BK583.out 5
    go_wp2
    go_meet
    case rel => exact ⟨_, ((a0_1 == 0)), (by first | rfl | (simp; done) | (simp [*]; done)), H', ⟨by first | omega | exact Nat.le_refl _⟩, ⟨by (with_reducible repeat (first | refine blk_drewN ?_ _ | refine blk_drew ?_ | refine blk_alloc ?_ _)); exact BK583.out⟩, ⟨by repeat (first | (with_reducible first | exact HB.out | apply below_alloc | apply pw_below_drewN | apply below_drew1 | refine below_set ?_ GE583.out) | exact HB.out)⟩⟩
   ·
    replace c7 := Bool.eq_false_iff.mpr c7
    subst c7
    have H1 : (sym_stands.j0 k a1 (a0_1 == 0) false a0_0 a0_1 false a0_3 a0_4 a0_5) = some r := by rw [if_neg (show ¬ (false = true) by decide)] at H; exact H
    clear H
    have H := H1
    clear H1
    have H' := Aside0.mk H
    clear H
    have hcz9_0 : w4.cell? ⟨gb583, 0, none⟩ = some (.string a0_0) := (blk_cell BK583.out 0).trans rfl
    have hcz9_1 : w4.cell? ⟨gb583, 1, none⟩ = some (.int .u8 a0_1) := (blk_cell BK583.out 1).trans rfl
    have hcz9_2 : w4.cell? ⟨gb583, 2, none⟩ = some (.bool false) := (blk_cell BK583.out 2).trans rfl
    have hcz9_3 : w4.cell? ⟨gb583, 3, none⟩ = some (.int .i64 a0_3) := (blk_cell BK583.out 3).trans rfl
    have hcz9_4 : w4.cell? ⟨gb583, 4, none⟩ = some (.int .i64 a0_4) := (blk_cell BK583.out 4).trans rfl
    have hcz9_5 : w4.cell? ⟨gb583, 5, none⟩ = some (.int .i64 a0_5) := (blk_cell BK583.out 5).trans rfl
    have hfz9_0 := blk_frozen BK583.out 0
    have hfz9_1 := blk_frozen BK583.out 1
    have hfz9_2 := blk_frozen BK583.out 2
    have hfz9_3 := blk_frozen BK583.out 3
    have hfz9_4 := blk_frozen BK583.out 4
    have hfz9_5 := blk_frozen BK583.out 5
    go_wp2
    go_meet
    case rel => exact ⟨_, (false), (by first | rfl | (simp; done) | (simp [*]; done)), H', ⟨by first | omega | exact Nat.le_refl _⟩, ⟨by (with_reducible repeat (first | refine blk_drewN ?_ _ | refine blk_drew ?_ | refine blk_alloc ?_ _)); exact BK583.out⟩, ⟨by repeat (first | (with_reducible first | exact HB.out | apply below_alloc | apply pw_below_drewN | apply below_drew1 | refine below_set ?_ GE583.out) | exact HB.out)⟩⟩
 case rest =>
  clear HC3
  try clear p2
  try clear c6
  try clear c6b0
  try clear c7
  try clear c8
  try clear hcz5_0
  try clear hcz5_1
  try clear hcz5_2
  try clear hcz5_3
  try clear hcz5_4
  try clear hcz5_5
  try clear hcz8_0
  try clear hcz8_1
  try clear hcz8_2
  try clear hcz8_3
  try clear hcz8_4
  try clear hcz8_5
  try clear hcz9_0
  try clear hcz9_1
  try clear hcz9_2
  try clear hcz9_3
  try clear hcz9_4
  try clear hcz9_5
  try clear hfz5_0
  try clear hfz5_1
  try clear hfz5_2
  try clear hfz5_3
  try clear hfz5_4
  try clear hfz5_5
  try clear hfz8_0
  try clear hfz8_1
  try clear hfz8_2
  try clear hfz8_3
  try clear hfz8_4
  try clear hfz8_5
  try clear hfz9_0
  try clear hfz9_1
  try clear hfz9_2
  try clear hfz9_3
  try clear hfz9_4
  try clear hfz9_5
  obtain ⟨kq, x10_2, rfl, HA, HJ2, BK583, HB⟩ := hcut
  cases kq with
  | zero => exact absurd HA.out (by simp [sym_stands.j0])
  | succ kj2 =>
   have H := HA.out
   clear HA
   simp only [sym_stands.j0] at H
   by_cases c10 : x10_2 = true
   ·
    subst c10
    have H1 : (some false) = some r := by rw [if_pos rfl] at H; exact H
    clear H
    have H := H1
    clear H1
    obtain rfl := Option.some.inj H
    go_wp2
    go_ret
    exact ⟨by first | rfl | (simp [errW_none, errW_some] <;> rfl) | (simp [*, errW_none, errW_some] <;> rfl), by repeat (first | (with_reducible first | exact HB.out | apply below_alloc | apply pw_below_drewN | apply below_drew1 | refine below_set ?_ GE583.out) | exact HB.out)⟩
   ·
    replace c10 := Bool.eq_false_iff.mpr c10
    subst c10
    have H1 : (if a0_3 = 0 then (if (a0_1 == 0) = true then (some false) else (if a0_4 = 0 then (some (a0_5 == 0)) else (some false))) else (if a0_3 = (-1) then ((sym_in.f a0_4 (-2147483648) 4294967295).bind fun t584 => (if t584 = true then (some (a0_5 == 0)) else (some false))) else (if a0_3 = (-2) then ((sect_Check.f kj2 (⟨#[46, 98, 115, 115]⟩ : ByteArray) a0_4 ([] : List Int) 0).bind fun t585 => (if t585 = 0 then ((sym_in.f a0_5 1 4096).bind fun t586 => (if t586 = true then (some (a0_1 == 1)) else (some false))) else (some false))) else ((sym_in.f a0_3 1 a1).bind fun t587 => (if t587 = true then ((sym_in.f a0_4 0 4096).bind fun t588 => (if t588 = true then ((sym_in.f a0_5 0 4096).bind fun t589 => (some t589)) else (some false))) else (some false)))))) = some r := by rw [if_neg (show ¬ (false = true) by decide)] at H; exact H
    clear H
    have H := H1
    clear H1
    by_cases c11 : a0_3 = 0
    ·
     rw [if_pos c11] at H
     have c11b0 : (a0_3 == 0) = true := beq_iff_eq.mpr c11
     have c11b1 : (a0_3 != 0) = false := bne_eq_false_iff_eq.mpr c11
     clear c11
     by_cases c12 : (a0_1 == 0) = true
     ·
      rw [if_pos c12] at H
      have c12b0 : (a0_1 == 0) = true := c12
      (try (have c12b1 : decide (a0_1 = 0) = true := by simpa using c12))
      (try (have c12b2 : (a0_1 == 0) = true := by simpa using c12))
      clear c12
      obtain rfl := Option.some.inj H
      have hcz13_0 : wc.cell? ⟨gb583, 0, none⟩ = some (.string a0_0) := (blk_cell BK583.out 0).trans rfl
      have hcz13_1 : wc.cell? ⟨gb583, 1, none⟩ = some (.int .u8 a0_1) := (blk_cell BK583.out 1).trans rfl
      have hcz13_2 : wc.cell? ⟨gb583, 2, none⟩ = some (.bool a0_2) := (blk_cell BK583.out 2).trans rfl
      have hcz13_3 : wc.cell? ⟨gb583, 3, none⟩ = some (.int .i64 a0_3) := (blk_cell BK583.out 3).trans rfl
      have hcz13_4 : wc.cell? ⟨gb583, 4, none⟩ = some (.int .i64 a0_4) := (blk_cell BK583.out 4).trans rfl
      have hcz13_5 : wc.cell? ⟨gb583, 5, none⟩ = some (.int .i64 a0_5) := (blk_cell BK583.out 5).trans rfl
      have hfz13_0 := blk_frozen BK583.out 0
      have hfz13_1 := blk_frozen BK583.out 1
      have hfz13_2 := blk_frozen BK583.out 2
      have hfz13_3 := blk_frozen BK583.out 3
      have hfz13_4 := blk_frozen BK583.out 4
      have hfz13_5 := blk_frozen BK583.out 5
      go_wp2
      go_ret
      exact ⟨by first | rfl | (simp [errW_none, errW_some] <;> rfl) | (simp [*, errW_none, errW_some] <;> rfl), by repeat (first | (with_reducible first | exact HB.out | apply below_alloc | apply pw_below_drewN | apply below_drew1 | refine below_set ?_ GE583.out) | exact HB.out)⟩
     ·
      rw [if_neg c12] at H
      have c12b0 : (a0_1 == 0) = false := by simpa using c12
      (try (have c12b1 : decide (a0_1 = 0) = false := by simpa using c12))
      (try (have c12b2 : (a0_1 == 0) = false := by simpa using c12))
      (try (have c12b3 : ¬ (a0_1 = 0) := by simpa using c12))
      clear c12
      by_cases c14 : a0_4 = 0
      ·
       rw [if_pos c14] at H
       have c14b0 : (a0_4 == 0) = true := beq_iff_eq.mpr c14
       have c14b1 : (a0_4 != 0) = false := bne_eq_false_iff_eq.mpr c14
       clear c14
       obtain rfl := Option.some.inj H
       have hcz15_0 : wc.cell? ⟨gb583, 0, none⟩ = some (.string a0_0) := (blk_cell BK583.out 0).trans rfl
       have hcz15_1 : wc.cell? ⟨gb583, 1, none⟩ = some (.int .u8 a0_1) := (blk_cell BK583.out 1).trans rfl
       have hcz15_2 : wc.cell? ⟨gb583, 2, none⟩ = some (.bool a0_2) := (blk_cell BK583.out 2).trans rfl
       have hcz15_3 : wc.cell? ⟨gb583, 3, none⟩ = some (.int .i64 a0_3) := (blk_cell BK583.out 3).trans rfl
       have hcz15_4 : wc.cell? ⟨gb583, 4, none⟩ = some (.int .i64 a0_4) := (blk_cell BK583.out 4).trans rfl
       have hcz15_5 : wc.cell? ⟨gb583, 5, none⟩ = some (.int .i64 a0_5) := (blk_cell BK583.out 5).trans rfl
       have hfz15_0 := blk_frozen BK583.out 0
       have hfz15_1 := blk_frozen BK583.out 1
       have hfz15_2 := blk_frozen BK583.out 2
       have hfz15_3 := blk_frozen BK583.out 3
       have hfz15_4 := blk_frozen BK583.out 4
       have hfz15_5 := blk_frozen BK583.out 5
       go_wp2
       go_ret
       exact ⟨by first | rfl | (simp [errW_none, errW_some] <;> rfl) | (simp [*, errW_none, errW_some] <;> rfl), by repeat (first | (with_reducible first | exact HB.out | apply below_alloc | apply pw_below_drewN | apply below_drew1 | refine below_set ?_ GE583.out) | exact HB.out)⟩
      ·
       rw [if_neg c14] at H
       have c14b0 : (a0_4 == 0) = false := beq_eq_false_iff_ne.mpr c14
       have c14b1 : (a0_4 != 0) = true := bne_iff_ne.mpr c14
       obtain rfl := Option.some.inj H
       have hcz16_0 : wc.cell? ⟨gb583, 0, none⟩ = some (.string a0_0) := (blk_cell BK583.out 0).trans rfl
       have hcz16_1 : wc.cell? ⟨gb583, 1, none⟩ = some (.int .u8 a0_1) := (blk_cell BK583.out 1).trans rfl
       have hcz16_2 : wc.cell? ⟨gb583, 2, none⟩ = some (.bool a0_2) := (blk_cell BK583.out 2).trans rfl
       have hcz16_3 : wc.cell? ⟨gb583, 3, none⟩ = some (.int .i64 a0_3) := (blk_cell BK583.out 3).trans rfl
       have hcz16_4 : wc.cell? ⟨gb583, 4, none⟩ = some (.int .i64 a0_4) := (blk_cell BK583.out 4).trans rfl
       have hcz16_5 : wc.cell? ⟨gb583, 5, none⟩ = some (.int .i64 a0_5) := (blk_cell BK583.out 5).trans rfl
       have hfz16_0 := blk_frozen BK583.out 0
       have hfz16_1 := blk_frozen BK583.out 1
       have hfz16_2 := blk_frozen BK583.out 2
       have hfz16_3 := blk_frozen BK583.out 3
       have hfz16_4 := blk_frozen BK583.out 4
       have hfz16_5 := blk_frozen BK583.out 5
       go_wp2
       go_ret
       exact ⟨by first | rfl | (simp [errW_none, errW_some] <;> rfl) | (simp [*, errW_none, errW_some] <;> rfl), by repeat (first | (with_reducible first | exact HB.out | apply below_alloc | apply pw_below_drewN | apply below_drew1 | refine below_set ?_ GE583.out) | exact HB.out)⟩
    ·
     rw [if_neg c11] at H
     have c11b0 : (a0_3 == 0) = false := beq_eq_false_iff_ne.mpr c11
     have c11b1 : (a0_3 != 0) = true := bne_iff_ne.mpr c11
     by_cases c17 : a0_3 = (-1)
     ·
      rw [if_pos c17] at H
      have c17b0 : (a0_3 == (-1)) = true := beq_iff_eq.mpr c17
      have c17b1 : (a0_3 != (-1)) = false := bne_eq_false_iff_eq.mpr c17
      clear c17
      replace H := Option.bind_eq_some_iff.mp H
      obtain ⟨t584, A180, H⟩ := H
      replace H : (if t584 = true then (some (a0_5 == 0)) else (some false)) = some r := H
      have A18 := Aside0.mk A180
      clear A180
      by_cases c19 : t584 = true
      ·
       subst c19
       have H1 : (some (a0_5 == 0)) = some r := by rw [if_pos rfl] at H; exact H
       clear H
       have H := H1
       clear H1
       obtain rfl := Option.some.inj H
       have hcz20_0 : wc.cell? ⟨gb583, 0, none⟩ = some (.string a0_0) := (blk_cell BK583.out 0).trans rfl
       have hcz20_1 : wc.cell? ⟨gb583, 1, none⟩ = some (.int .u8 a0_1) := (blk_cell BK583.out 1).trans rfl
       have hcz20_2 : wc.cell? ⟨gb583, 2, none⟩ = some (.bool a0_2) := (blk_cell BK583.out 2).trans rfl
       have hcz20_3 : wc.cell? ⟨gb583, 3, none⟩ = some (.int .i64 a0_3) := (blk_cell BK583.out 3).trans rfl
       have hcz20_4 : wc.cell? ⟨gb583, 4, none⟩ = some (.int .i64 a0_4) := (blk_cell BK583.out 4).trans rfl
       have hcz20_5 : wc.cell? ⟨gb583, 5, none⟩ = some (.int .i64 a0_5) := (blk_cell BK583.out 5).trans rfl
       have hfz20_0 := blk_frozen BK583.out 0
       have hfz20_1 := blk_frozen BK583.out 1
       have hfz20_2 := blk_frozen BK583.out 2
       have hfz20_3 := blk_frozen BK583.out 3
       have hfz20_4 := blk_frozen BK583.out 4
       have hfz20_5 := blk_frozen BK583.out 5
       go_wp2_with (first | ((with_reducible refine gate_callee (f := 87) rfl ?_); refine goesL_ (some 41) rfl rfl Try.func87 (by kernel_rfl) rfl #[.int .i64 a0_4, .int .i64 (-2147483648), .int .i64 4294967295] rfl (by (try simp only [List.map_toArray, List.map_cons, List.map_nil]); first | done | rfl | (simp only [List.length_drop, List.length_take]; rfl)) ?_; (with_reducible refine (sym_in.calls a0_4 (-2147483648) 4294967295 true _ A18.out).mono ?_); rintro e w' ⟨rfl, ⟨nd, rfl⟩⟩; refine ⟨_, rfl, ?_⟩))
       go_ret
       exact ⟨by first | rfl | (simp [errW_none, errW_some] <;> rfl) | (simp [*, errW_none, errW_some] <;> rfl), by repeat (first | (with_reducible first | exact HB.out | apply below_alloc | apply pw_below_drewN | apply below_drew1 | refine below_set ?_ GE583.out) | exact HB.out)⟩
      ·
       replace c19 := Bool.eq_false_iff.mpr c19
       subst c19
       have H1 : (some false) = some r := by rw [if_neg (show ¬ (false = true) by decide)] at H; exact H
       clear H
       have H := H1
       clear H1
       obtain rfl := Option.some.inj H
       have hcz21_0 : wc.cell? ⟨gb583, 0, none⟩ = some (.string a0_0) := (blk_cell BK583.out 0).trans rfl
       have hcz21_1 : wc.cell? ⟨gb583, 1, none⟩ = some (.int .u8 a0_1) := (blk_cell BK583.out 1).trans rfl
       have hcz21_2 : wc.cell? ⟨gb583, 2, none⟩ = some (.bool a0_2) := (blk_cell BK583.out 2).trans rfl
       have hcz21_3 : wc.cell? ⟨gb583, 3, none⟩ = some (.int .i64 a0_3) := (blk_cell BK583.out 3).trans rfl
       have hcz21_4 : wc.cell? ⟨gb583, 4, none⟩ = some (.int .i64 a0_4) := (blk_cell BK583.out 4).trans rfl
       have hcz21_5 : wc.cell? ⟨gb583, 5, none⟩ = some (.int .i64 a0_5) := (blk_cell BK583.out 5).trans rfl
       have hfz21_0 := blk_frozen BK583.out 0
       have hfz21_1 := blk_frozen BK583.out 1
       have hfz21_2 := blk_frozen BK583.out 2
       have hfz21_3 := blk_frozen BK583.out 3
       have hfz21_4 := blk_frozen BK583.out 4
       have hfz21_5 := blk_frozen BK583.out 5
       go_wp2_with (first | ((with_reducible refine gate_callee (f := 87) rfl ?_); refine goesL_ (some 41) rfl rfl Try.func87 (by kernel_rfl) rfl #[.int .i64 a0_4, .int .i64 (-2147483648), .int .i64 4294967295] rfl (by (try simp only [List.map_toArray, List.map_cons, List.map_nil]); first | done | rfl | (simp only [List.length_drop, List.length_take]; rfl)) ?_; (with_reducible refine (sym_in.calls a0_4 (-2147483648) 4294967295 false _ A18.out).mono ?_); rintro e w' ⟨rfl, ⟨nd, rfl⟩⟩; refine ⟨_, rfl, ?_⟩))
       go_ret
       exact ⟨by first | rfl | (simp [errW_none, errW_some] <;> rfl) | (simp [*, errW_none, errW_some] <;> rfl), by repeat (first | (with_reducible first | exact HB.out | apply below_alloc | apply pw_below_drewN | apply below_drew1 | refine below_set ?_ GE583.out) | exact HB.out)⟩
     ·
      rw [if_neg c17] at H
      have c17b0 : (a0_3 == (-1)) = false := beq_eq_false_iff_ne.mpr c17
      have c17b1 : (a0_3 != (-1)) = true := bne_iff_ne.mpr c17
      by_cases c22 : a0_3 = (-2)
      ·
       rw [if_pos c22] at H
       have c22b0 : (a0_3 == (-2)) = true := beq_iff_eq.mpr c22
       have c22b1 : (a0_3 != (-2)) = false := bne_eq_false_iff_eq.mpr c22
       clear c22
       replace H := Option.bind_eq_some_iff.mp H
       obtain ⟨t585, A230, H⟩ := H
       replace H : (if t585 = 0 then ((sym_in.f a0_5 1 4096).bind fun t586 => (if t586 = true then (some (a0_1 == 1)) else (some false))) else (some false)) = some r := H
       have A23 := Aside0.mk A230
       clear A230
       by_cases c24 : t585 = 0
       ·
        rw [if_pos c24] at H
        have c24b0 : (t585 == 0) = true := beq_iff_eq.mpr c24
        have c24b1 : (t585 != 0) = false := bne_eq_false_iff_eq.mpr c24
        clear c24
        replace H := Option.bind_eq_some_iff.mp H
        obtain ⟨t586, A250, H⟩ := H
        replace H : (if t586 = true then (some (a0_1 == 1)) else (some false)) = some r := H
        have A25 := Aside0.mk A250
        clear A250
        by_cases c26 : t586 = true
        ·
         subst c26
         have H1 : (some (a0_1 == 1)) = some r := by rw [if_pos rfl] at H; exact H
         clear H
         have H := H1
         clear H1
         obtain rfl := Option.some.inj H
         have hcz27_0 : wc.cell? ⟨gb583, 0, none⟩ = some (.string a0_0) := (blk_cell BK583.out 0).trans rfl
         have hcz27_1 : wc.cell? ⟨gb583, 1, none⟩ = some (.int .u8 a0_1) := (blk_cell BK583.out 1).trans rfl
         have hcz27_2 : wc.cell? ⟨gb583, 2, none⟩ = some (.bool a0_2) := (blk_cell BK583.out 2).trans rfl
         have hcz27_3 : wc.cell? ⟨gb583, 3, none⟩ = some (.int .i64 a0_3) := (blk_cell BK583.out 3).trans rfl
         have hcz27_4 : wc.cell? ⟨gb583, 4, none⟩ = some (.int .i64 a0_4) := (blk_cell BK583.out 4).trans rfl
         have hcz27_5 : wc.cell? ⟨gb583, 5, none⟩ = some (.int .i64 a0_5) := (blk_cell BK583.out 5).trans rfl
         have hfz27_0 := blk_frozen BK583.out 0
         have hfz27_1 := blk_frozen BK583.out 1
         have hfz27_2 := blk_frozen BK583.out 2
         have hfz27_3 := blk_frozen BK583.out 3
         have hfz27_4 := blk_frozen BK583.out 4
         have hfz27_5 := blk_frozen BK583.out 5
         go_wp2_with (first | ((with_reducible refine gate_callee (f := 37) rfl ?_); refine goesL_ (some 54) rfl rfl Try.func37 (by kernel_rfl) rfl #[.agg #[.string (⟨#[46, 98, 115, 115]⟩ : ByteArray), .int .i64 a0_4, .slice none 0 0, .int .i64 0]] rfl (by (try simp only [List.map_toArray, List.map_cons, List.map_nil]); first | done | rfl | (simp only [List.length_drop, List.length_take]; rfl)) ?_; (refine (sect_Check.calls kj2 (⟨#[46, 98, 115, 115]⟩ : ByteArray) a0_4 _ _ ([] : List Int) 0 t585 _ ?side1 ?side2 A23.out).mono ?_); (case side1 => exact Kd.C_nil _ _); (case side2 => exact Nat.le_refl _); rintro e w28 ⟨rfl, hb⟩; refine ⟨_, rfl, ?_⟩; have n0_ := Aside0.mk (blk_below (g := gb583) (o := .cells #[.string a0_0, .int .u8 a0_1, .bool a0_2, .int .i64 a0_3, .int .i64 a0_4, .int .i64 a0_5] 64 (0, 0)) (by (with_reducible repeat (first | refine blk_drewN ?_ _ | refine blk_drew ?_ | refine blk_alloc ?_ _)); exact BK583.out) hb); have n1_ := Aside0.mk (below_step (by repeat (first | (with_reducible first | exact HB.out | apply below_alloc | apply pw_below_drewN | apply below_drew1 | refine below_set ?_ GE583.out) | exact HB.out)) hb); clear BK583; clear HB; have BK583 := n0_; have HB := n1_; clear n0_ n1_; (try clear hb); (try clear hb2); (try clear hk); (try clear hi); have hcz29_0 : w28.cell? ⟨gb583, 0, none⟩ = some (.string a0_0) := (blk_cell BK583.out 0).trans rfl; have hcz29_1 : w28.cell? ⟨gb583, 1, none⟩ = some (.int .u8 a0_1) := (blk_cell BK583.out 1).trans rfl; have hcz29_2 : w28.cell? ⟨gb583, 2, none⟩ = some (.bool a0_2) := (blk_cell BK583.out 2).trans rfl; have hcz29_3 : w28.cell? ⟨gb583, 3, none⟩ = some (.int .i64 a0_3) := (blk_cell BK583.out 3).trans rfl; have hcz29_4 : w28.cell? ⟨gb583, 4, none⟩ = some (.int .i64 a0_4) := (blk_cell BK583.out 4).trans rfl; have hcz29_5 : w28.cell? ⟨gb583, 5, none⟩ = some (.int .i64 a0_5) := (blk_cell BK583.out 5).trans rfl; have hfz29_0 := blk_frozen BK583.out 0; have hfz29_1 := blk_frozen BK583.out 1; have hfz29_2 := blk_frozen BK583.out 2; have hfz29_3 := blk_frozen BK583.out 3; have hfz29_4 := blk_frozen BK583.out 4; have hfz29_5 := blk_frozen BK583.out 5) | (go_at_call 87; (with_reducible refine (sym_in.calls a0_5 1 4096 true _ A25.out).mono ?_); rintro e w' ⟨rfl, ⟨nd, rfl⟩⟩))
         go_ret
         exact ⟨by first | rfl | (simp [errW_none, errW_some] <;> rfl) | (simp [*, errW_none, errW_some] <;> rfl), by repeat (first | (with_reducible first | exact HB.out | apply below_alloc | apply pw_below_drewN | apply below_drew1 | refine below_set ?_ GE583.out) | exact HB.out)⟩
        ·
         replace c26 := Bool.eq_false_iff.mpr c26
         subst c26
         have H1 : (some false) = some r := by rw [if_neg (show ¬ (false = true) by decide)] at H; exact H
         clear H
         have H := H1
         clear H1
         obtain rfl := Option.some.inj H
         have hcz30_0 : wc.cell? ⟨gb583, 0, none⟩ = some (.string a0_0) := (blk_cell BK583.out 0).trans rfl
         have hcz30_1 : wc.cell? ⟨gb583, 1, none⟩ = some (.int .u8 a0_1) := (blk_cell BK583.out 1).trans rfl
         have hcz30_2 : wc.cell? ⟨gb583, 2, none⟩ = some (.bool a0_2) := (blk_cell BK583.out 2).trans rfl
         have hcz30_3 : wc.cell? ⟨gb583, 3, none⟩ = some (.int .i64 a0_3) := (blk_cell BK583.out 3).trans rfl
         have hcz30_4 : wc.cell? ⟨gb583, 4, none⟩ = some (.int .i64 a0_4) := (blk_cell BK583.out 4).trans rfl
         have hcz30_5 : wc.cell? ⟨gb583, 5, none⟩ = some (.int .i64 a0_5) := (blk_cell BK583.out 5).trans rfl
         have hfz30_0 := blk_frozen BK583.out 0
         have hfz30_1 := blk_frozen BK583.out 1
         have hfz30_2 := blk_frozen BK583.out 2
         have hfz30_3 := blk_frozen BK583.out 3
         have hfz30_4 := blk_frozen BK583.out 4
         have hfz30_5 := blk_frozen BK583.out 5
         go_wp2_with (first | ((with_reducible refine gate_callee (f := 37) rfl ?_); refine goesL_ (some 54) rfl rfl Try.func37 (by kernel_rfl) rfl #[.agg #[.string (⟨#[46, 98, 115, 115]⟩ : ByteArray), .int .i64 a0_4, .slice none 0 0, .int .i64 0]] rfl (by (try simp only [List.map_toArray, List.map_cons, List.map_nil]); first | done | rfl | (simp only [List.length_drop, List.length_take]; rfl)) ?_; (refine (sect_Check.calls kj2 (⟨#[46, 98, 115, 115]⟩ : ByteArray) a0_4 _ _ ([] : List Int) 0 t585 _ ?side1 ?side2 A23.out).mono ?_); (case side1 => exact Kd.C_nil _ _); (case side2 => exact Nat.le_refl _); rintro e w31 ⟨rfl, hb⟩; refine ⟨_, rfl, ?_⟩; have n0_ := Aside0.mk (blk_below (g := gb583) (o := .cells #[.string a0_0, .int .u8 a0_1, .bool a0_2, .int .i64 a0_3, .int .i64 a0_4, .int .i64 a0_5] 64 (0, 0)) (by (with_reducible repeat (first | refine blk_drewN ?_ _ | refine blk_drew ?_ | refine blk_alloc ?_ _)); exact BK583.out) hb); have n1_ := Aside0.mk (below_step (by repeat (first | (with_reducible first | exact HB.out | apply below_alloc | apply pw_below_drewN | apply below_drew1 | refine below_set ?_ GE583.out) | exact HB.out)) hb); clear BK583; clear HB; have BK583 := n0_; have HB := n1_; clear n0_ n1_; (try clear hb); (try clear hb2); (try clear hk); (try clear hi); have hcz32_0 : w31.cell? ⟨gb583, 0, none⟩ = some (.string a0_0) := (blk_cell BK583.out 0).trans rfl; have hcz32_1 : w31.cell? ⟨gb583, 1, none⟩ = some (.int .u8 a0_1) := (blk_cell BK583.out 1).trans rfl; have hcz32_2 : w31.cell? ⟨gb583, 2, none⟩ = some (.bool a0_2) := (blk_cell BK583.out 2).trans rfl; have hcz32_3 : w31.cell? ⟨gb583, 3, none⟩ = some (.int .i64 a0_3) := (blk_cell BK583.out 3).trans rfl; have hcz32_4 : w31.cell? ⟨gb583, 4, none⟩ = some (.int .i64 a0_4) := (blk_cell BK583.out 4).trans rfl; have hcz32_5 : w31.cell? ⟨gb583, 5, none⟩ = some (.int .i64 a0_5) := (blk_cell BK583.out 5).trans rfl; have hfz32_0 := blk_frozen BK583.out 0; have hfz32_1 := blk_frozen BK583.out 1; have hfz32_2 := blk_frozen BK583.out 2; have hfz32_3 := blk_frozen BK583.out 3; have hfz32_4 := blk_frozen BK583.out 4; have hfz32_5 := blk_frozen BK583.out 5) | (go_at_call 87; (with_reducible refine (sym_in.calls a0_5 1 4096 false _ A25.out).mono ?_); rintro e w' ⟨rfl, ⟨nd, rfl⟩⟩))
         go_ret
         exact ⟨by first | rfl | (simp [errW_none, errW_some] <;> rfl) | (simp [*, errW_none, errW_some] <;> rfl), by repeat (first | (with_reducible first | exact HB.out | apply below_alloc | apply pw_below_drewN | apply below_drew1 | refine below_set ?_ GE583.out) | exact HB.out)⟩
       ·
        rw [if_neg c24] at H
        have c24b0 : (t585 == 0) = false := beq_eq_false_iff_ne.mpr c24
        have c24b1 : (t585 != 0) = true := bne_iff_ne.mpr c24
        obtain rfl := Option.some.inj H
        have hcz33_0 : wc.cell? ⟨gb583, 0, none⟩ = some (.string a0_0) := (blk_cell BK583.out 0).trans rfl
        have hcz33_1 : wc.cell? ⟨gb583, 1, none⟩ = some (.int .u8 a0_1) := (blk_cell BK583.out 1).trans rfl
        have hcz33_2 : wc.cell? ⟨gb583, 2, none⟩ = some (.bool a0_2) := (blk_cell BK583.out 2).trans rfl
        have hcz33_3 : wc.cell? ⟨gb583, 3, none⟩ = some (.int .i64 a0_3) := (blk_cell BK583.out 3).trans rfl
        have hcz33_4 : wc.cell? ⟨gb583, 4, none⟩ = some (.int .i64 a0_4) := (blk_cell BK583.out 4).trans rfl
        have hcz33_5 : wc.cell? ⟨gb583, 5, none⟩ = some (.int .i64 a0_5) := (blk_cell BK583.out 5).trans rfl
        have hfz33_0 := blk_frozen BK583.out 0
        have hfz33_1 := blk_frozen BK583.out 1
        have hfz33_2 := blk_frozen BK583.out 2
        have hfz33_3 := blk_frozen BK583.out 3
        have hfz33_4 := blk_frozen BK583.out 4
        have hfz33_5 := blk_frozen BK583.out 5
        go_wp2_with (first | ((with_reducible refine gate_callee (f := 37) rfl ?_); refine goesL_ (some 54) rfl rfl Try.func37 (by kernel_rfl) rfl #[.agg #[.string (⟨#[46, 98, 115, 115]⟩ : ByteArray), .int .i64 a0_4, .slice none 0 0, .int .i64 0]] rfl (by (try simp only [List.map_toArray, List.map_cons, List.map_nil]); first | done | rfl | (simp only [List.length_drop, List.length_take]; rfl)) ?_; (refine (sect_Check.calls kj2 (⟨#[46, 98, 115, 115]⟩ : ByteArray) a0_4 _ _ ([] : List Int) 0 t585 _ ?side1 ?side2 A23.out).mono ?_); (case side1 => exact Kd.C_nil _ _); (case side2 => exact Nat.le_refl _); rintro e w34 ⟨rfl, hb⟩; refine ⟨_, rfl, ?_⟩; have n0_ := Aside0.mk (blk_below (g := gb583) (o := .cells #[.string a0_0, .int .u8 a0_1, .bool a0_2, .int .i64 a0_3, .int .i64 a0_4, .int .i64 a0_5] 64 (0, 0)) (by (with_reducible repeat (first | refine blk_drewN ?_ _ | refine blk_drew ?_ | refine blk_alloc ?_ _)); exact BK583.out) hb); have n1_ := Aside0.mk (below_step (by repeat (first | (with_reducible first | exact HB.out | apply below_alloc | apply pw_below_drewN | apply below_drew1 | refine below_set ?_ GE583.out) | exact HB.out)) hb); clear BK583; clear HB; have BK583 := n0_; have HB := n1_; clear n0_ n1_; (try clear hb); (try clear hb2); (try clear hk); (try clear hi)))
        go_ret
        exact ⟨by first | rfl | (simp [errW_none, errW_some] <;> rfl) | (simp [*, errW_none, errW_some] <;> rfl), by repeat (first | (with_reducible first | exact HB.out | apply below_alloc | apply pw_below_drewN | apply below_drew1 | refine below_set ?_ GE583.out) | exact HB.out)⟩
      ·
       rw [if_neg c22] at H
       have c22b0 : (a0_3 == (-2)) = false := beq_eq_false_iff_ne.mpr c22
       have c22b1 : (a0_3 != (-2)) = true := bne_iff_ne.mpr c22
       replace H := Option.bind_eq_some_iff.mp H
       obtain ⟨t587, A350, H⟩ := H
       replace H : (if t587 = true then ((sym_in.f a0_4 0 4096).bind fun t588 => (if t588 = true then ((sym_in.f a0_5 0 4096).bind fun t589 => (some t589)) else (some false))) else (some false)) = some r := H
       have A35 := Aside0.mk A350
       clear A350
       by_cases c36 : t587 = true
       ·
        subst c36
        have H1 : ((sym_in.f a0_4 0 4096).bind fun t588 => (if t588 = true then ((sym_in.f a0_5 0 4096).bind fun t589 => (some t589)) else (some false))) = some r := by rw [if_pos rfl] at H; exact H
        clear H
        have H := H1
        clear H1
        replace H := Option.bind_eq_some_iff.mp H
        obtain ⟨t588, A370, H⟩ := H
        replace H : (if t588 = true then ((sym_in.f a0_5 0 4096).bind fun t589 => (some t589)) else (some false)) = some r := H
        have A37 := Aside0.mk A370
        clear A370
        by_cases c38 : t588 = true
        ·
         subst c38
         have H1 : ((sym_in.f a0_5 0 4096).bind fun t589 => (some t589)) = some r := by rw [if_pos rfl] at H; exact H
         clear H
         have H := H1
         clear H1
         replace H := Option.bind_eq_some_iff.mp H
         obtain ⟨t589, A390, H⟩ := H
         replace H : (some t589) = some r := H
         have A39 := Aside0.mk A390
         clear A390
         obtain rfl := Option.some.inj H
         have hcz40_0 : wc.cell? ⟨gb583, 0, none⟩ = some (.string a0_0) := (blk_cell BK583.out 0).trans rfl
         have hcz40_1 : wc.cell? ⟨gb583, 1, none⟩ = some (.int .u8 a0_1) := (blk_cell BK583.out 1).trans rfl
         have hcz40_2 : wc.cell? ⟨gb583, 2, none⟩ = some (.bool a0_2) := (blk_cell BK583.out 2).trans rfl
         have hcz40_3 : wc.cell? ⟨gb583, 3, none⟩ = some (.int .i64 a0_3) := (blk_cell BK583.out 3).trans rfl
         have hcz40_4 : wc.cell? ⟨gb583, 4, none⟩ = some (.int .i64 a0_4) := (blk_cell BK583.out 4).trans rfl
         have hcz40_5 : wc.cell? ⟨gb583, 5, none⟩ = some (.int .i64 a0_5) := (blk_cell BK583.out 5).trans rfl
         have hfz40_0 := blk_frozen BK583.out 0
         have hfz40_1 := blk_frozen BK583.out 1
         have hfz40_2 := blk_frozen BK583.out 2
         have hfz40_3 := blk_frozen BK583.out 3
         have hfz40_4 := blk_frozen BK583.out 4
         have hfz40_5 := blk_frozen BK583.out 5
         go_wp2_with (first | ((with_reducible refine gate_callee (f := 87) rfl ?_); refine goesL_ (some 70) rfl rfl Try.func87 (by kernel_rfl) rfl #[.int .i64 a0_3, .int .i64 1, .int .i64 a1] rfl (by (try simp only [List.map_toArray, List.map_cons, List.map_nil]); first | done | rfl | (simp only [List.length_drop, List.length_take]; rfl)) ?_; (with_reducible refine (sym_in.calls a0_3 1 a1 true _ A35.out).mono ?_); rintro e w' ⟨rfl, ⟨nd, rfl⟩⟩; refine ⟨_, rfl, ?_⟩) | (go_at_call 87; (with_reducible refine (sym_in.calls a0_4 0 4096 true _ A37.out).mono ?_); rintro e w' ⟨rfl, ⟨nd, rfl⟩⟩) | (go_at_call 87; (with_reducible refine (sym_in.calls a0_5 0 4096 t589 _ A39.out).mono ?_); rintro e w' ⟨rfl, ⟨nd, rfl⟩⟩))
         go_ret
         exact ⟨by first | rfl | (simp [errW_none, errW_some] <;> rfl) | (simp [*, errW_none, errW_some] <;> rfl), by repeat (first | (with_reducible first | exact HB.out | apply below_alloc | apply pw_below_drewN | apply below_drew1 | refine below_set ?_ GE583.out) | exact HB.out)⟩
        ·
         replace c38 := Bool.eq_false_iff.mpr c38
         subst c38
         have H1 : (some false) = some r := by rw [if_neg (show ¬ (false = true) by decide)] at H; exact H
         clear H
         have H := H1
         clear H1
         obtain rfl := Option.some.inj H
         have hcz41_0 : wc.cell? ⟨gb583, 0, none⟩ = some (.string a0_0) := (blk_cell BK583.out 0).trans rfl
         have hcz41_1 : wc.cell? ⟨gb583, 1, none⟩ = some (.int .u8 a0_1) := (blk_cell BK583.out 1).trans rfl
         have hcz41_2 : wc.cell? ⟨gb583, 2, none⟩ = some (.bool a0_2) := (blk_cell BK583.out 2).trans rfl
         have hcz41_3 : wc.cell? ⟨gb583, 3, none⟩ = some (.int .i64 a0_3) := (blk_cell BK583.out 3).trans rfl
         have hcz41_4 : wc.cell? ⟨gb583, 4, none⟩ = some (.int .i64 a0_4) := (blk_cell BK583.out 4).trans rfl
         have hcz41_5 : wc.cell? ⟨gb583, 5, none⟩ = some (.int .i64 a0_5) := (blk_cell BK583.out 5).trans rfl
         have hfz41_0 := blk_frozen BK583.out 0
         have hfz41_1 := blk_frozen BK583.out 1
         have hfz41_2 := blk_frozen BK583.out 2
         have hfz41_3 := blk_frozen BK583.out 3
         have hfz41_4 := blk_frozen BK583.out 4
         have hfz41_5 := blk_frozen BK583.out 5
         go_wp2_with (first | ((with_reducible refine gate_callee (f := 87) rfl ?_); refine goesL_ (some 70) rfl rfl Try.func87 (by kernel_rfl) rfl #[.int .i64 a0_3, .int .i64 1, .int .i64 a1] rfl (by (try simp only [List.map_toArray, List.map_cons, List.map_nil]); first | done | rfl | (simp only [List.length_drop, List.length_take]; rfl)) ?_; (with_reducible refine (sym_in.calls a0_3 1 a1 true _ A35.out).mono ?_); rintro e w' ⟨rfl, ⟨nd, rfl⟩⟩; refine ⟨_, rfl, ?_⟩) | (go_at_call 87; (with_reducible refine (sym_in.calls a0_4 0 4096 false _ A37.out).mono ?_); rintro e w' ⟨rfl, ⟨nd, rfl⟩⟩))
         go_ret
         exact ⟨by first | rfl | (simp [errW_none, errW_some] <;> rfl) | (simp [*, errW_none, errW_some] <;> rfl), by repeat (first | (with_reducible first | exact HB.out | apply below_alloc | apply pw_below_drewN | apply below_drew1 | refine below_set ?_ GE583.out) | exact HB.out)⟩
       ·
        replace c36 := Bool.eq_false_iff.mpr c36
        subst c36
        have H1 : (some false) = some r := by rw [if_neg (show ¬ (false = true) by decide)] at H; exact H
        clear H
        have H := H1
        clear H1
        obtain rfl := Option.some.inj H
        have hcz42_0 : wc.cell? ⟨gb583, 0, none⟩ = some (.string a0_0) := (blk_cell BK583.out 0).trans rfl
        have hcz42_1 : wc.cell? ⟨gb583, 1, none⟩ = some (.int .u8 a0_1) := (blk_cell BK583.out 1).trans rfl
        have hcz42_2 : wc.cell? ⟨gb583, 2, none⟩ = some (.bool a0_2) := (blk_cell BK583.out 2).trans rfl
        have hcz42_3 : wc.cell? ⟨gb583, 3, none⟩ = some (.int .i64 a0_3) := (blk_cell BK583.out 3).trans rfl
        have hcz42_4 : wc.cell? ⟨gb583, 4, none⟩ = some (.int .i64 a0_4) := (blk_cell BK583.out 4).trans rfl
        have hcz42_5 : wc.cell? ⟨gb583, 5, none⟩ = some (.int .i64 a0_5) := (blk_cell BK583.out 5).trans rfl
        have hfz42_0 := blk_frozen BK583.out 0
        have hfz42_1 := blk_frozen BK583.out 1
        have hfz42_2 := blk_frozen BK583.out 2
        have hfz42_3 := blk_frozen BK583.out 3
        have hfz42_4 := blk_frozen BK583.out 4
        have hfz42_5 := blk_frozen BK583.out 5
        go_wp2_with (first | ((with_reducible refine gate_callee (f := 87) rfl ?_); refine goesL_ (some 70) rfl rfl Try.func87 (by kernel_rfl) rfl #[.int .i64 a0_3, .int .i64 1, .int .i64 a1] rfl (by (try simp only [List.map_toArray, List.map_cons, List.map_nil]); first | done | rfl | (simp only [List.length_drop, List.length_take]; rfl)) ?_; (with_reducible refine (sym_in.calls a0_3 1 a1 false _ A35.out).mono ?_); rintro e w' ⟨rfl, ⟨nd, rfl⟩⟩; refine ⟨_, rfl, ?_⟩))
        go_ret
        exact ⟨by first | rfl | (simp [errW_none, errW_some] <;> rfl) | (simp [*, errW_none, errW_some] <;> rfl), by repeat (first | (with_reducible first | exact HB.out | apply below_alloc | apply pw_below_drewN | apply below_drew1 | refine below_set ?_ GE583.out) | exact HB.out)⟩

/-! ### sym_Check: function 50 -/
def sym_Check.f (k : Nat) (a0_0 : ByteArray) (a0_1 : Int) (a0_2 : Bool) (a0_3 : Int) (a0_4 : Int) (a0_5 : Int) (a1 : Int) : Option (Int) := (sym_in.f a1 0 16).bind fun t591 => (if t591 = true then ((sym_named.f k a0_0).bind fun t592 => (if t592 = true then ((sym_stands.f k a0_0 a0_1 a0_2 a0_3 a0_4 a0_5 a1).bind fun t593 => (if t593 = true then (some 0) else (some 8))) else (some 8))) else (some 2))
theorem sym_Check.mono : ∀ a0 a1 a2 a3 a4 a5 a6 k, LeO (sym_Check.f k a0 a1 a2 a3 a4 a5 a6) (sym_Check.f (k + 1) a0 a1 a2 a3 a4 a5 a6) := by
 intro a0 a1 a2 a3 a4 a5 a6 k
 unfold sym_Check.f
 repeat' first
   | (with_reducible exact sym_named.mono _ _)
   | (with_reducible exact sym_stands.mono _ _ _ _ _ _ _ _)
   | (with_reducible exact LeO.refl _)
   | (with_reducible exact LeO.none _)
   | (with_reducible refine LeO.ite ?_ ?_)
   | (with_reducible refine LeO.bind ?_ (fun _ => ?_))
   | exact sym_named.mono _ _
   | exact sym_stands.mono _ _ _ _ _ _ _ _
   | exact LeO.none _
   | refine LeO.ite ?_ ?_
   | refine LeO.bind ?_ (fun _ => ?_)
set_option maxHeartbeats 8000000 in
set_option maxRecDepth 100000 in
theorem sym_Check.calls (k : Nat) (a0_0 : ByteArray) (a0_1 : Int) (a0_2 : Bool) (a0_3 : Int) (a0_4 : Int) (a0_5 : Int) (a1 : Int) (r : Int) (w : World) (h : sym_Check.f k a0_0 a0_1 a0_2 a0_3 a0_4 a0_5 a1 = some r) :
  Calls Try.prog 50 #[.agg #[.string a0_0, .int .u8 a0_1, .bool a0_2, .int .i64 a0_3, .int .i64 a0_4, .int .i64 a0_5], .int .i64 a1] w fun e w' => e = .returned (.int .i64 r) ∧ Below w.heap.size w w' := by
 have hu64 := Try.underlying64
 have HB := Aside0.mk (Below.refl w.heap.size w)
 have H : ((sym_in.f a1 0 16).bind fun t591 => (if t591 = true then ((sym_named.f k a0_0).bind fun t592 => (if t592 = true then ((sym_stands.f k a0_0 a0_1 a0_2 a0_3 a0_4 a0_5 a1).bind fun t593 => (if t593 = true then (some 0) else (some 8))) else (some 8))) else (some 2))) = some r := h
 clear h
 replace H := Option.bind_eq_some_iff.mp H
 obtain ⟨t591, A30, H⟩ := H
 replace H : (if t591 = true then ((sym_named.f k a0_0).bind fun t592 => (if t592 = true then ((sym_stands.f k a0_0 a0_1 a0_2 a0_3 a0_4 a0_5 a1).bind fun t593 => (if t593 = true then (some 0) else (some 8))) else (some 8))) else (some 2)) = some r := H
 have A3 := Aside0.mk A30
 clear A30
 by_cases c4 : t591 = true
 ·
  subst c4
  have H1 : ((sym_named.f k a0_0).bind fun t592 => (if t592 = true then ((sym_stands.f k a0_0 a0_1 a0_2 a0_3 a0_4 a0_5 a1).bind fun t593 => (if t593 = true then (some 0) else (some 8))) else (some 8))) = some r := by rw [if_pos rfl] at H; exact H
  clear H
  have H := H1
  clear H1
  replace H := Option.bind_eq_some_iff.mp H
  obtain ⟨t592, A50, H⟩ := H
  replace H : (if t592 = true then ((sym_stands.f k a0_0 a0_1 a0_2 a0_3 a0_4 a0_5 a1).bind fun t593 => (if t593 = true then (some 0) else (some 8))) else (some 8)) = some r := H
  have A5 := Aside0.mk A50
  clear A50
  by_cases c6 : t592 = true
  ·
   subst c6
   have H1 : ((sym_stands.f k a0_0 a0_1 a0_2 a0_3 a0_4 a0_5 a1).bind fun t593 => (if t593 = true then (some 0) else (some 8))) = some r := by rw [if_pos rfl] at H; exact H
   clear H
   have H := H1
   clear H1
   replace H := Option.bind_eq_some_iff.mp H
   obtain ⟨t593, A70, H⟩ := H
   replace H : (if t593 = true then (some 0) else (some 8)) = some r := H
   have A7 := Aside0.mk A70
   clear A70
   by_cases c8 : t593 = true
   ·
    subst c8
    have H1 : (some 0) = some r := by rw [if_pos rfl] at H; exact H
    clear H
    have H := H1
    clear H1
    obtain rfl := Option.some.inj H
    go_enter Try.func50, Try.ntmps50
    go_wp2_with (first | ((with_reducible refine gate_dst (N := 2) rfl ?_); refine box_event ?hg (N := 2) ?hd (cs := #[.string a0_0, .int .u8 a0_1, .bool a0_2, .int .i64 a0_3, .int .i64 a0_4, .int .i64 a0_5]) (t := 64) ?hr ?_; (case hd => rfl); (case hg => rfl); (case hr => first | (go_simp; done) | (go_simp; rfl)); intro gb590 hg w9 hbox hb; have n0_ := Aside0.mk (below_step (by repeat (first | (with_reducible first | exact HB.out | apply below_alloc | apply pw_below_drewN | apply below_drew1) | exact HB.out)) hb); have n1_ := Aside0.mk (hbox); have n2_ := Aside0.mk ((by rw [hg]; exact (below_size (by repeat (first | (with_reducible first | exact HB.out | apply below_alloc | apply pw_below_drewN | apply below_drew1) | exact HB.out))) : w.heap.size ≤ gb590)); have n3_ := Aside0.mk ((by rw [hg]; exact (below_size (by repeat (first | (with_reducible first | exact HB.out | apply below_alloc | apply pw_below_drewN | apply below_drew1) | exact HB.out))) : w.heap.size ≤ gb590)); clear HB; have HB := n0_; have BK590 := n1_; have GW590 := n2_; have GE590 := n3_; clear n0_ n1_ n2_ n3_; clear hb hbox hg) | ((with_reducible refine gate_callee (f := 87) rfl ?_); refine goesL_ (some 6) rfl rfl Try.func87 (by kernel_rfl) rfl #[.int .i64 a1, .int .i64 0, .int .i64 16] rfl (by (try simp only [List.map_toArray, List.map_cons, List.map_nil]); first | done | rfl | (simp only [List.length_drop, List.length_take]; rfl)) ?_; (with_reducible refine (sym_in.calls a1 0 16 true _ A3.out).mono ?_); rintro e w' ⟨rfl, ⟨nd, rfl⟩⟩; refine ⟨_, rfl, ?_⟩; have hcz10_0 : w9.cell? ⟨gb590, 0, none⟩ = some (.string a0_0) := (blk_cell BK590.out 0).trans rfl; have hcz10_1 : w9.cell? ⟨gb590, 1, none⟩ = some (.int .u8 a0_1) := (blk_cell BK590.out 1).trans rfl; have hcz10_2 : w9.cell? ⟨gb590, 2, none⟩ = some (.bool a0_2) := (blk_cell BK590.out 2).trans rfl; have hcz10_3 : w9.cell? ⟨gb590, 3, none⟩ = some (.int .i64 a0_3) := (blk_cell BK590.out 3).trans rfl; have hcz10_4 : w9.cell? ⟨gb590, 4, none⟩ = some (.int .i64 a0_4) := (blk_cell BK590.out 4).trans rfl; have hcz10_5 : w9.cell? ⟨gb590, 5, none⟩ = some (.int .i64 a0_5) := (blk_cell BK590.out 5).trans rfl; have hfz10_0 := blk_frozen BK590.out 0; have hfz10_1 := blk_frozen BK590.out 1; have hfz10_2 := blk_frozen BK590.out 2; have hfz10_3 := blk_frozen BK590.out 3; have hfz10_4 := blk_frozen BK590.out 4; have hfz10_5 := blk_frozen BK590.out 5) | ((with_reducible refine gate_callee (f := 88) rfl ?_); refine goesL_ (some 10) rfl rfl Try.func88 (by kernel_rfl) rfl #[.string a0_0] rfl (by (try simp only [List.map_toArray, List.map_cons, List.map_nil]); first | done | rfl | (simp only [List.length_drop, List.length_take]; rfl)) ?_; (with_reducible refine (sym_named.calls k a0_0 true _ A5.out).mono ?_); rintro e w' ⟨rfl, ⟨nd, rfl⟩⟩; refine ⟨_, rfl, ?_⟩) | (go_at_call 89; (with_reducible refine (sym_stands.calls k a0_0 a0_1 a0_2 a0_3 a0_4 a0_5 a1 true _ A7.out).mono ?_); rintro e w11 ⟨rfl, hb⟩; have n0_ := Aside0.mk (blk_below (g := gb590) (o := .cells #[.string a0_0, .int .u8 a0_1, .bool a0_2, .int .i64 a0_3, .int .i64 a0_4, .int .i64 a0_5] 64 (0, 0)) (by (with_reducible repeat (first | refine blk_drewN ?_ _ | refine blk_drew ?_ | refine blk_alloc ?_ _)); exact BK590.out) hb); have n1_ := Aside0.mk (below_step (by repeat (first | (with_reducible first | exact HB.out | apply below_alloc | apply pw_below_drewN | apply below_drew1 | refine below_set ?_ GE590.out) | exact HB.out)) hb); clear BK590; clear HB; have BK590 := n0_; have HB := n1_; clear n0_ n1_; (try clear hb); (try clear hb2); (try clear hk); (try clear hi)))
    go_ret
    exact ⟨by first | rfl | (simp [errW_none, errW_some] <;> rfl) | (simp [*, errW_none, errW_some] <;> rfl), by repeat (first | (with_reducible first | exact HB.out | apply below_alloc | apply pw_below_drewN | apply below_drew1 | refine below_set ?_ GE590.out) | exact HB.out)⟩
   ·
    replace c8 := Bool.eq_false_iff.mpr c8
    subst c8
    have H1 : (some 8) = some r := by rw [if_neg (show ¬ (false = true) by decide)] at H; exact H
    clear H
    have H := H1
    clear H1
    obtain rfl := Option.some.inj H
    go_enter Try.func50, Try.ntmps50
    go_wp2_with (first | ((with_reducible refine gate_dst (N := 2) rfl ?_); refine box_event ?hg (N := 2) ?hd (cs := #[.string a0_0, .int .u8 a0_1, .bool a0_2, .int .i64 a0_3, .int .i64 a0_4, .int .i64 a0_5]) (t := 64) ?hr ?_; (case hd => rfl); (case hg => rfl); (case hr => first | (go_simp; done) | (go_simp; rfl)); intro gb590 hg w12 hbox hb; have n0_ := Aside0.mk (below_step (by repeat (first | (with_reducible first | exact HB.out | apply below_alloc | apply pw_below_drewN | apply below_drew1) | exact HB.out)) hb); have n1_ := Aside0.mk (hbox); have n2_ := Aside0.mk ((by rw [hg]; exact (below_size (by repeat (first | (with_reducible first | exact HB.out | apply below_alloc | apply pw_below_drewN | apply below_drew1) | exact HB.out))) : w.heap.size ≤ gb590)); have n3_ := Aside0.mk ((by rw [hg]; exact (below_size (by repeat (first | (with_reducible first | exact HB.out | apply below_alloc | apply pw_below_drewN | apply below_drew1) | exact HB.out))) : w.heap.size ≤ gb590)); clear HB; have HB := n0_; have BK590 := n1_; have GW590 := n2_; have GE590 := n3_; clear n0_ n1_ n2_ n3_; clear hb hbox hg) | ((with_reducible refine gate_callee (f := 87) rfl ?_); refine goesL_ (some 6) rfl rfl Try.func87 (by kernel_rfl) rfl #[.int .i64 a1, .int .i64 0, .int .i64 16] rfl (by (try simp only [List.map_toArray, List.map_cons, List.map_nil]); first | done | rfl | (simp only [List.length_drop, List.length_take]; rfl)) ?_; (with_reducible refine (sym_in.calls a1 0 16 true _ A3.out).mono ?_); rintro e w' ⟨rfl, ⟨nd, rfl⟩⟩; refine ⟨_, rfl, ?_⟩; have hcz13_0 : w12.cell? ⟨gb590, 0, none⟩ = some (.string a0_0) := (blk_cell BK590.out 0).trans rfl; have hcz13_1 : w12.cell? ⟨gb590, 1, none⟩ = some (.int .u8 a0_1) := (blk_cell BK590.out 1).trans rfl; have hcz13_2 : w12.cell? ⟨gb590, 2, none⟩ = some (.bool a0_2) := (blk_cell BK590.out 2).trans rfl; have hcz13_3 : w12.cell? ⟨gb590, 3, none⟩ = some (.int .i64 a0_3) := (blk_cell BK590.out 3).trans rfl; have hcz13_4 : w12.cell? ⟨gb590, 4, none⟩ = some (.int .i64 a0_4) := (blk_cell BK590.out 4).trans rfl; have hcz13_5 : w12.cell? ⟨gb590, 5, none⟩ = some (.int .i64 a0_5) := (blk_cell BK590.out 5).trans rfl; have hfz13_0 := blk_frozen BK590.out 0; have hfz13_1 := blk_frozen BK590.out 1; have hfz13_2 := blk_frozen BK590.out 2; have hfz13_3 := blk_frozen BK590.out 3; have hfz13_4 := blk_frozen BK590.out 4; have hfz13_5 := blk_frozen BK590.out 5) | ((with_reducible refine gate_callee (f := 88) rfl ?_); refine goesL_ (some 10) rfl rfl Try.func88 (by kernel_rfl) rfl #[.string a0_0] rfl (by (try simp only [List.map_toArray, List.map_cons, List.map_nil]); first | done | rfl | (simp only [List.length_drop, List.length_take]; rfl)) ?_; (with_reducible refine (sym_named.calls k a0_0 true _ A5.out).mono ?_); rintro e w' ⟨rfl, ⟨nd, rfl⟩⟩; refine ⟨_, rfl, ?_⟩) | (go_at_call 89; (with_reducible refine (sym_stands.calls k a0_0 a0_1 a0_2 a0_3 a0_4 a0_5 a1 false _ A7.out).mono ?_); rintro e w14 ⟨rfl, hb⟩; have n0_ := Aside0.mk (blk_below (g := gb590) (o := .cells #[.string a0_0, .int .u8 a0_1, .bool a0_2, .int .i64 a0_3, .int .i64 a0_4, .int .i64 a0_5] 64 (0, 0)) (by (with_reducible repeat (first | refine blk_drewN ?_ _ | refine blk_drew ?_ | refine blk_alloc ?_ _)); exact BK590.out) hb); have n1_ := Aside0.mk (below_step (by repeat (first | (with_reducible first | exact HB.out | apply below_alloc | apply pw_below_drewN | apply below_drew1 | refine below_set ?_ GE590.out) | exact HB.out)) hb); clear BK590; clear HB; have BK590 := n0_; have HB := n1_; clear n0_ n1_; (try clear hb); (try clear hb2); (try clear hk); (try clear hi)))
    go_ret
    exact ⟨by first | rfl | (simp [errW_none, errW_some] <;> rfl) | (simp [*, errW_none, errW_some] <;> rfl), by repeat (first | (with_reducible first | exact HB.out | apply below_alloc | apply pw_below_drewN | apply below_drew1 | refine below_set ?_ GE590.out) | exact HB.out)⟩
  ·
   replace c6 := Bool.eq_false_iff.mpr c6
   subst c6
   have H1 : (some 8) = some r := by rw [if_neg (show ¬ (false = true) by decide)] at H; exact H
   clear H
   have H := H1
   clear H1
   obtain rfl := Option.some.inj H
   go_enter Try.func50, Try.ntmps50
   go_wp2_with (first | ((with_reducible refine gate_dst (N := 2) rfl ?_); refine box_event ?hg (N := 2) ?hd (cs := #[.string a0_0, .int .u8 a0_1, .bool a0_2, .int .i64 a0_3, .int .i64 a0_4, .int .i64 a0_5]) (t := 64) ?hr ?_; (case hd => rfl); (case hg => rfl); (case hr => first | (go_simp; done) | (go_simp; rfl)); intro gb590 hg w15 hbox hb; have n0_ := Aside0.mk (below_step (by repeat (first | (with_reducible first | exact HB.out | apply below_alloc | apply pw_below_drewN | apply below_drew1) | exact HB.out)) hb); have n1_ := Aside0.mk (hbox); have n2_ := Aside0.mk ((by rw [hg]; exact (below_size (by repeat (first | (with_reducible first | exact HB.out | apply below_alloc | apply pw_below_drewN | apply below_drew1) | exact HB.out))) : w.heap.size ≤ gb590)); have n3_ := Aside0.mk ((by rw [hg]; exact (below_size (by repeat (first | (with_reducible first | exact HB.out | apply below_alloc | apply pw_below_drewN | apply below_drew1) | exact HB.out))) : w.heap.size ≤ gb590)); clear HB; have HB := n0_; have BK590 := n1_; have GW590 := n2_; have GE590 := n3_; clear n0_ n1_ n2_ n3_; clear hb hbox hg) | ((with_reducible refine gate_callee (f := 87) rfl ?_); refine goesL_ (some 6) rfl rfl Try.func87 (by kernel_rfl) rfl #[.int .i64 a1, .int .i64 0, .int .i64 16] rfl (by (try simp only [List.map_toArray, List.map_cons, List.map_nil]); first | done | rfl | (simp only [List.length_drop, List.length_take]; rfl)) ?_; (with_reducible refine (sym_in.calls a1 0 16 true _ A3.out).mono ?_); rintro e w' ⟨rfl, ⟨nd, rfl⟩⟩; refine ⟨_, rfl, ?_⟩; have hcz16_0 : w15.cell? ⟨gb590, 0, none⟩ = some (.string a0_0) := (blk_cell BK590.out 0).trans rfl; have hcz16_1 : w15.cell? ⟨gb590, 1, none⟩ = some (.int .u8 a0_1) := (blk_cell BK590.out 1).trans rfl; have hcz16_2 : w15.cell? ⟨gb590, 2, none⟩ = some (.bool a0_2) := (blk_cell BK590.out 2).trans rfl; have hcz16_3 : w15.cell? ⟨gb590, 3, none⟩ = some (.int .i64 a0_3) := (blk_cell BK590.out 3).trans rfl; have hcz16_4 : w15.cell? ⟨gb590, 4, none⟩ = some (.int .i64 a0_4) := (blk_cell BK590.out 4).trans rfl; have hcz16_5 : w15.cell? ⟨gb590, 5, none⟩ = some (.int .i64 a0_5) := (blk_cell BK590.out 5).trans rfl; have hfz16_0 := blk_frozen BK590.out 0; have hfz16_1 := blk_frozen BK590.out 1; have hfz16_2 := blk_frozen BK590.out 2; have hfz16_3 := blk_frozen BK590.out 3; have hfz16_4 := blk_frozen BK590.out 4; have hfz16_5 := blk_frozen BK590.out 5) | ((with_reducible refine gate_callee (f := 88) rfl ?_); refine goesL_ (some 10) rfl rfl Try.func88 (by kernel_rfl) rfl #[.string a0_0] rfl (by (try simp only [List.map_toArray, List.map_cons, List.map_nil]); first | done | rfl | (simp only [List.length_drop, List.length_take]; rfl)) ?_; (with_reducible refine (sym_named.calls k a0_0 false _ A5.out).mono ?_); rintro e w' ⟨rfl, ⟨nd, rfl⟩⟩; refine ⟨_, rfl, ?_⟩))
   go_ret
   exact ⟨by first | rfl | (simp [errW_none, errW_some] <;> rfl) | (simp [*, errW_none, errW_some] <;> rfl), by repeat (first | (with_reducible first | exact HB.out | apply below_alloc | apply pw_below_drewN | apply below_drew1 | refine below_set ?_ GE590.out) | exact HB.out)⟩
 ·
  replace c4 := Bool.eq_false_iff.mpr c4
  subst c4
  have H1 : (some 2) = some r := by rw [if_neg (show ¬ (false = true) by decide)] at H; exact H
  clear H
  have H := H1
  clear H1
  obtain rfl := Option.some.inj H
  go_enter Try.func50, Try.ntmps50
  go_wp2_with (first | ((with_reducible refine gate_dst (N := 2) rfl ?_); refine box_event ?hg (N := 2) ?hd (cs := #[.string a0_0, .int .u8 a0_1, .bool a0_2, .int .i64 a0_3, .int .i64 a0_4, .int .i64 a0_5]) (t := 64) ?hr ?_; (case hd => rfl); (case hg => rfl); (case hr => first | (go_simp; done) | (go_simp; rfl)); intro gb590 hg w17 hbox hb; have n0_ := Aside0.mk (below_step (by repeat (first | (with_reducible first | exact HB.out | apply below_alloc | apply pw_below_drewN | apply below_drew1) | exact HB.out)) hb); have n1_ := Aside0.mk (hbox); have n2_ := Aside0.mk ((by rw [hg]; exact (below_size (by repeat (first | (with_reducible first | exact HB.out | apply below_alloc | apply pw_below_drewN | apply below_drew1) | exact HB.out))) : w.heap.size ≤ gb590)); have n3_ := Aside0.mk ((by rw [hg]; exact (below_size (by repeat (first | (with_reducible first | exact HB.out | apply below_alloc | apply pw_below_drewN | apply below_drew1) | exact HB.out))) : w.heap.size ≤ gb590)); clear HB; have HB := n0_; have BK590 := n1_; have GW590 := n2_; have GE590 := n3_; clear n0_ n1_ n2_ n3_; clear hb hbox hg) | ((with_reducible refine gate_callee (f := 87) rfl ?_); refine goesL_ (some 6) rfl rfl Try.func87 (by kernel_rfl) rfl #[.int .i64 a1, .int .i64 0, .int .i64 16] rfl (by (try simp only [List.map_toArray, List.map_cons, List.map_nil]); first | done | rfl | (simp only [List.length_drop, List.length_take]; rfl)) ?_; (with_reducible refine (sym_in.calls a1 0 16 false _ A3.out).mono ?_); rintro e w' ⟨rfl, ⟨nd, rfl⟩⟩; refine ⟨_, rfl, ?_⟩))
  go_ret
  exact ⟨by first | rfl | (simp [errW_none, errW_some] <;> rfl) | (simp [*, errW_none, errW_some] <;> rfl), by repeat (first | (with_reducible first | exact HB.out | apply below_alloc | apply pw_below_drewN | apply below_drew1 | refine below_set ?_ GE590.out) | exact HB.out)⟩

/-! ### sym_Write: function 51 -/
mutual
def sym_Write.j0 : Nat → List Int → Int → ByteArray → Int → Bool → Int → Int → Int → Option (List Int × Int)
 | 0, _, _, _, _, _, _, _, _ => none
 | k + 1, x7, x9, x595000, x595001, x595002, x595003, x595004, x595005 => if x595003 < 0 then (sym_Write.j1 k x7 x9 (IntKind.u16.wrap (65520 + (IntKind.u16.wrap (wrap64 (-x595003))))) x595000 x595001 x595002 x595003 x595004 x595005) else (sym_Write.j1 k x7 x9 (IntKind.u16.wrap (x595003)) x595000 x595001 x595002 x595003 x595004 x595005)
def sym_Write.j1 : Nat → List Int → Int → Int → ByteArray → Int → Bool → Int → Int → Int → Option (List Int × Int)
 | 0, _, _, _, _, _, _, _, _, _ => none
 | k + 1, x7, x9, x10, x595000, x595001, x595002, x595003, x595004, x595005 => (some (([(x595001 * 16) % 256, x9, (x10) % 256, (x10 / 256) % 256] : List Int) : List Int)).bind fun y601 => (if x7.length + y601.length < 140737488355328 then ((some (([x595004, x595005] : List Int) : List Int)).bind fun y607 => (sym_Write.l0 k (x7 ++ y601) y607 (y607.length : Int) 0)) else (none))
def sym_Write.l0 : Nat → List Int → List Int → Int → Int → Option (List Int × Int)
 | 0, _, _, _, _ => none
 | k + 1, x7, x57, x58, x59 => if x59 < x58 then (if 0 ≤ x59 then (if x59 < (x57.length : Int) then ((le_Put.f k (rd x57 x59) 8).bind fun bt611 => (if x7.length + bt611.1.length < 140737488355328 then (sym_Write.l0 k (x7 ++ bt611.1) x57 x58 (wrap64 (x59 + 1))) else (none))) else (none)) else (none)) else (some (x7, 0))
end
def sym_Write.f (k : Nat) (a0_0 : ByteArray) (a0_1 : Int) (a0_2 : Bool) (a0_3 : Int) (a0_4 : Int) (a0_5 : Int) (a1 : Int) : Option (List Int × Int) := (sym_Check.f k a0_0 a0_1 a0_2 a0_3 a0_4 a0_5 16).bind fun t595 => (if t595 = 0 then ((sym_in.f a1 0 65535).bind fun t596 => (if t596 = true then ((le_Put.f k a1 4).bind fun bt597 => (if a0_2 = true then (sym_Write.j0 k bt597.1 2 a0_0 a0_1 a0_2 a0_3 a0_4 a0_5) else (sym_Write.j0 k bt597.1 0 a0_0 a0_1 a0_2 a0_3 a0_4 a0_5))) else (some (([] : List Int), 2)))) else (some (([] : List Int), t595)))
theorem sym_Write.mono_l : ∀ k, (∀ y0 y1 y2 y3 y4 y5 y6 y7, LeO (sym_Write.j0 k y0 y1 y2 y3 y4 y5 y6 y7) (sym_Write.j0 (k + 1) y0 y1 y2 y3 y4 y5 y6 y7)) ∧ (∀ y0 y1 y2 y3 y4 y5 y6 y7 y8, LeO (sym_Write.j1 k y0 y1 y2 y3 y4 y5 y6 y7 y8) (sym_Write.j1 (k + 1) y0 y1 y2 y3 y4 y5 y6 y7 y8)) ∧ (∀ y0 y1 y2 y3, LeO (sym_Write.l0 k y0 y1 y2 y3) (sym_Write.l0 (k + 1) y0 y1 y2 y3))
 | 0 => ⟨fun _ _ _ _ _ _ _ _ r h => by simp [sym_Write.j0] at h, fun _ _ _ _ _ _ _ _ _ r h => by simp [sym_Write.j1] at h, fun _ _ _ _ r h => by simp [sym_Write.l0] at h⟩
 | k + 1 => by
  obtain ⟨ih0, ih1, ih2⟩ := sym_Write.mono_l k
  refine ⟨?_, ?_, ?_⟩
  ·
   intro y0 y1 y2 y3 y4 y5 y6 y7
   unfold sym_Write.j0
   repeat' first
   | (with_reducible exact ih0 _ _ _ _ _ _ _ _)
   | (with_reducible exact ih1 _ _ _ _ _ _ _ _ _)
   | (with_reducible exact ih2 _ _ _ _)
   | (with_reducible exact le_Put.mono _ _ _)
   | (with_reducible exact sym_Check.mono _ _ _ _ _ _ _ _)
   | (with_reducible exact LeO.refl _)
   | (with_reducible exact LeO.none _)
   | (with_reducible refine LeO.ite ?_ ?_)
   | (with_reducible refine LeO.bind ?_ (fun _ => ?_))
   | exact ih0 _ _ _ _ _ _ _ _
   | exact ih1 _ _ _ _ _ _ _ _ _
   | exact ih2 _ _ _ _
   | exact le_Put.mono _ _ _
   | exact sym_Check.mono _ _ _ _ _ _ _ _
   | exact LeO.none _
   | refine LeO.ite ?_ ?_
   | refine LeO.bind ?_ (fun _ => ?_)
  ·
   intro y0 y1 y2 y3 y4 y5 y6 y7 y8
   unfold sym_Write.j1
   repeat' first
   | (with_reducible exact ih0 _ _ _ _ _ _ _ _)
   | (with_reducible exact ih1 _ _ _ _ _ _ _ _ _)
   | (with_reducible exact ih2 _ _ _ _)
   | (with_reducible exact le_Put.mono _ _ _)
   | (with_reducible exact sym_Check.mono _ _ _ _ _ _ _ _)
   | (with_reducible exact LeO.refl _)
   | (with_reducible exact LeO.none _)
   | (with_reducible refine LeO.ite ?_ ?_)
   | (with_reducible refine LeO.bind ?_ (fun _ => ?_))
   | exact ih0 _ _ _ _ _ _ _ _
   | exact ih1 _ _ _ _ _ _ _ _ _
   | exact ih2 _ _ _ _
   | exact le_Put.mono _ _ _
   | exact sym_Check.mono _ _ _ _ _ _ _ _
   | exact LeO.none _
   | refine LeO.ite ?_ ?_
   | refine LeO.bind ?_ (fun _ => ?_)
  ·
   intro y0 y1 y2 y3
   unfold sym_Write.l0
   repeat' first
   | (with_reducible exact ih0 _ _ _ _ _ _ _ _)
   | (with_reducible exact ih1 _ _ _ _ _ _ _ _ _)
   | (with_reducible exact ih2 _ _ _ _)
   | (with_reducible exact le_Put.mono _ _ _)
   | (with_reducible exact sym_Check.mono _ _ _ _ _ _ _ _)
   | (with_reducible exact LeO.refl _)
   | (with_reducible exact LeO.none _)
   | (with_reducible refine LeO.ite ?_ ?_)
   | (with_reducible refine LeO.bind ?_ (fun _ => ?_))
   | exact ih0 _ _ _ _ _ _ _ _
   | exact ih1 _ _ _ _ _ _ _ _ _
   | exact ih2 _ _ _ _
   | exact le_Put.mono _ _ _
   | exact sym_Check.mono _ _ _ _ _ _ _ _
   | exact LeO.none _
   | refine LeO.ite ?_ ?_
   | refine LeO.bind ?_ (fun _ => ?_)
theorem sym_Write.mono : ∀ a0 a1 a2 a3 a4 a5 a6 k, LeO (sym_Write.f k a0 a1 a2 a3 a4 a5 a6) (sym_Write.f (k + 1) a0 a1 a2 a3 a4 a5 a6) := by
 intro a0 a1 a2 a3 a4 a5 a6 k
 obtain ⟨ih0, ih1, ih2⟩ := sym_Write.mono_l k
 unfold sym_Write.f
 repeat' first
   | (with_reducible exact ih0 _ _ _ _ _ _ _ _)
   | (with_reducible exact ih1 _ _ _ _ _ _ _ _ _)
   | (with_reducible exact ih2 _ _ _ _)
   | (with_reducible exact le_Put.mono _ _ _)
   | (with_reducible exact sym_Check.mono _ _ _ _ _ _ _ _)
   | (with_reducible exact LeO.refl _)
   | (with_reducible exact LeO.none _)
   | (with_reducible refine LeO.ite ?_ ?_)
   | (with_reducible refine LeO.bind ?_ (fun _ => ?_))
   | exact ih0 _ _ _ _ _ _ _ _
   | exact ih1 _ _ _ _ _ _ _ _ _
   | exact ih2 _ _ _ _
   | exact le_Put.mono _ _ _
   | exact sym_Check.mono _ _ _ _ _ _ _ _
   | exact LeO.none _
   | refine LeO.ite ?_ ?_
   | refine LeO.bind ?_ (fun _ => ?_)
set_option maxHeartbeats 8000000 in
set_option maxRecDepth 100000 in
theorem sym_Write.calls (k : Nat) (a0_0 : ByteArray) (a0_1 : Int) (a0_2 : Bool) (a0_3 : Int) (a0_4 : Int) (a0_5 : Int) (a1 : Int) (r1 : List Int) (r2 : Int) (w : World) (h : sym_Write.f k a0_0 a0_1 a0_2 a0_3 a0_4 a0_5 a1 = some (r1, r2)) :
  Calls Try.prog 51 #[.agg #[.string a0_0, .int .u8 a0_1, .bool a0_2, .int .i64 a0_3, .int .i64 a0_4, .int .i64 a0_5], .int .i64 a1] w fun e w' => ∃ v0_ : Value, e = .returned (.tuple #[v0_, .int .i64 r2]) ∧ Kd.R (Kd.int .u8) 5 w' w.heap.size (fun _ => True) v0_ r1 ∧ Below w.heap.size w w' := by
 have hu64 := Try.underlying64
 have HB := Aside0.mk (Below.refl w.heap.size w)
 have H : ((sym_Check.f k a0_0 a0_1 a0_2 a0_3 a0_4 a0_5 16).bind fun t595 => (if t595 = 0 then ((sym_in.f a1 0 65535).bind fun t596 => (if t596 = true then ((le_Put.f k a1 4).bind fun bt597 => (if a0_2 = true then (sym_Write.j0 k bt597.1 2 a0_0 a0_1 a0_2 a0_3 a0_4 a0_5) else (sym_Write.j0 k bt597.1 0 a0_0 a0_1 a0_2 a0_3 a0_4 a0_5))) else (some (([] : List Int), 2)))) else (some (([] : List Int), t595)))) = some (r1, r2) := h
 clear h
 replace H := Option.bind_eq_some_iff.mp H
 obtain ⟨t595, A30, H⟩ := H
 replace H : (if t595 = 0 then ((sym_in.f a1 0 65535).bind fun t596 => (if t596 = true then ((le_Put.f k a1 4).bind fun bt597 => (if a0_2 = true then (sym_Write.j0 k bt597.1 2 a0_0 a0_1 a0_2 a0_3 a0_4 a0_5) else (sym_Write.j0 k bt597.1 0 a0_0 a0_1 a0_2 a0_3 a0_4 a0_5))) else (some (([] : List Int), 2)))) else (some (([] : List Int), t595))) = some (r1, r2) := H
 have A3 := Aside0.mk A30
 clear A30
 by_cases c4 : t595 = 0
 ·
  rw [if_pos c4] at H
  have c4b0 : (t595 == 0) = true := beq_iff_eq.mpr c4
  have c4b1 : (t595 != 0) = false := bne_eq_false_iff_eq.mpr c4
  clear c4
  replace H := Option.bind_eq_some_iff.mp H
  obtain ⟨t596, A50, H⟩ := H
  replace H : (if t596 = true then ((le_Put.f k a1 4).bind fun bt597 => (if a0_2 = true then (sym_Write.j0 k bt597.1 2 a0_0 a0_1 a0_2 a0_3 a0_4 a0_5) else (sym_Write.j0 k bt597.1 0 a0_0 a0_1 a0_2 a0_3 a0_4 a0_5))) else (some (([] : List Int), 2))) = some (r1, r2) := H
  have A5 := Aside0.mk A50
  clear A50
  by_cases c6 : t596 = true
  ·
   subst c6
   have H1 : ((le_Put.f k a1 4).bind fun bt597 => (if a0_2 = true then (sym_Write.j0 k bt597.1 2 a0_0 a0_1 a0_2 a0_3 a0_4 a0_5) else (sym_Write.j0 k bt597.1 0 a0_0 a0_1 a0_2 a0_3 a0_4 a0_5))) = some (r1, r2) := by rw [if_pos rfl] at H; exact H
   clear H
   have H := H1
   clear H1
   replace H := Option.bind_eq_some_iff.mp H
   obtain ⟨⟨t597, t598⟩, A70, H⟩ := H
   replace H : (if a0_2 = true then (sym_Write.j0 k t597 2 a0_0 a0_1 a0_2 a0_3 a0_4 a0_5) else (sym_Write.j0 k t597 0 a0_0 a0_1 a0_2 a0_3 a0_4 a0_5)) = some (r1, r2) := H
   have A7 := Aside0.mk A70
   clear A70
   have HC8 := Aside0.mk H
   clear H
   go_enter Try.func51, Try.ntmps51
   go_upto_if 29 with (first | ((with_reducible refine gate_dst (N := 2) rfl ?_); refine box_event ?hg (N := 2) ?hd (cs := #[.string a0_0, .int .u8 a0_1, .bool a0_2, .int .i64 a0_3, .int .i64 a0_4, .int .i64 a0_5]) (t := 64) ?hr ?_; (case hd => rfl); (case hg => rfl); (case hr => first | (go_simp; done) | (go_simp; rfl)); intro gb594 hg w9 hbox hb; have n0_ := Aside0.mk (below_step (by repeat (first | (with_reducible first | exact HB.out | apply below_alloc | apply pw_below_drewN | apply below_drew1) | exact HB.out)) hb); have n1_ := Aside0.mk (hbox); have n2_ := Aside0.mk ((by rw [hg]; exact (below_size (by repeat (first | (with_reducible first | exact HB.out | apply below_alloc | apply pw_below_drewN | apply below_drew1) | exact HB.out))) : w.heap.size ≤ gb594)); have n3_ := Aside0.mk ((by rw [hg]; exact (below_size (by repeat (first | (with_reducible first | exact HB.out | apply below_alloc | apply pw_below_drewN | apply below_drew1) | exact HB.out))) : w.heap.size ≤ gb594)); clear HB; have HB := n0_; have BK594 := n1_; have GW594 := n2_; have GE594 := n3_; clear n0_ n1_ n2_ n3_; clear hb hbox hg; have hcz10_0 : w9.cell? ⟨gb594, 0, none⟩ = some (.string a0_0) := (blk_cell BK594.out 0).trans rfl; have hcz10_1 : w9.cell? ⟨gb594, 1, none⟩ = some (.int .u8 a0_1) := (blk_cell BK594.out 1).trans rfl; have hcz10_2 : w9.cell? ⟨gb594, 2, none⟩ = some (.bool a0_2) := (blk_cell BK594.out 2).trans rfl; have hcz10_3 : w9.cell? ⟨gb594, 3, none⟩ = some (.int .i64 a0_3) := (blk_cell BK594.out 3).trans rfl; have hcz10_4 : w9.cell? ⟨gb594, 4, none⟩ = some (.int .i64 a0_4) := (blk_cell BK594.out 4).trans rfl; have hcz10_5 : w9.cell? ⟨gb594, 5, none⟩ = some (.int .i64 a0_5) := (blk_cell BK594.out 5).trans rfl; have hfz10_0 := blk_frozen BK594.out 0; have hfz10_1 := blk_frozen BK594.out 1; have hfz10_2 := blk_frozen BK594.out 2; have hfz10_3 := blk_frozen BK594.out 3; have hfz10_4 := blk_frozen BK594.out 4; have hfz10_5 := blk_frozen BK594.out 5) | ((with_reducible refine gate_callee (f := 50) rfl ?_); refine goesL_ (some 16) rfl rfl Try.func50 (by kernel_rfl) rfl #[.agg #[.string a0_0, .int .u8 a0_1, .bool a0_2, .int .i64 a0_3, .int .i64 a0_4, .int .i64 a0_5], .int .i64 16] rfl (by (try simp only [List.map_toArray, List.map_cons, List.map_nil]); first | done | rfl | (simp only [List.length_drop, List.length_take]; rfl)) ?_; (with_reducible refine (sym_Check.calls k a0_0 a0_1 a0_2 a0_3 a0_4 a0_5 16 t595 _ A3.out).mono ?_); rintro e w11 ⟨rfl, hb⟩; refine ⟨_, rfl, ?_⟩; have n0_ := Aside0.mk (blk_below (g := gb594) (o := .cells #[.string a0_0, .int .u8 a0_1, .bool a0_2, .int .i64 a0_3, .int .i64 a0_4, .int .i64 a0_5] 64 (0, 0)) (by (with_reducible repeat (first | refine blk_drewN ?_ _ | refine blk_drew ?_ | refine blk_alloc ?_ _)); exact BK594.out) hb); have n1_ := Aside0.mk (below_step (by repeat (first | (with_reducible first | exact HB.out | apply below_alloc | apply pw_below_drewN | apply below_drew1 | refine below_set ?_ GE594.out) | exact HB.out)) hb); clear BK594; clear HB; have BK594 := n0_; have HB := n1_; clear n0_ n1_; (try clear hb); (try clear hb2); (try clear hk); (try clear hi)) | ((with_reducible refine gate_callee (f := 87) rfl ?_); refine goesL_ (some 21) rfl rfl Try.func87 (by kernel_rfl) rfl #[.int .i64 a1, .int .i64 0, .int .i64 65535] rfl (by (try simp only [List.map_toArray, List.map_cons, List.map_nil]); first | done | rfl | (simp only [List.length_drop, List.length_take]; rfl)) ?_; (with_reducible refine (sym_in.calls a1 0 65535 true _ A5.out).mono ?_); rintro e w' ⟨rfl, ⟨nd, rfl⟩⟩; refine ⟨_, rfl, ?_⟩) | ((with_reducible refine gate_callee (f := 68) rfl ?_); refine goesL_ (some 25) rfl rfl Try.func68 (by kernel_rfl) rfl #[.int .i64 a1, .int .i64 4] rfl (by (try simp only [List.map_toArray, List.map_cons, List.map_nil]); first | done | rfl | (simp only [List.length_drop, List.length_take]; rfl)) ?_; (with_reducible refine (le_Put.calls k a1 4 t597 t598 _ A7.out).mono ?_); rintro e w12 ⟨v599, rfl, ho0, hb⟩; refine ⟨_, rfl, ?_⟩; have n0_ := Aside0.mk (Kd.R_lower ho0 (below_size (by repeat (first | (with_reducible first | exact HB.out | apply below_alloc | apply pw_below_drewN | apply below_drew1 | refine below_set ?_ GE594.out) | exact HB.out)))); have n1_ := Aside0.mk (blk_below (g := gb594) (o := .cells #[.string a0_0, .int .u8 a0_1, .bool a0_2, .int .i64 a0_3, .int .i64 a0_4, .int .i64 a0_5] 64 (0, 0)) (by (with_reducible repeat (first | refine blk_drewN ?_ _ | refine blk_drew ?_ | refine blk_alloc ?_ _)); exact BK594.out) hb); have n2_ := Aside0.mk (below_step (by repeat (first | (with_reducible first | exact HB.out | apply below_alloc | apply pw_below_drewN | apply below_drew1 | refine below_set ?_ GE594.out) | exact HB.out)) hb); clear BK594; clear HB; have HO600 := n0_; have BK594 := n1_; have HB := n2_; clear n0_ n1_ n2_; (try clear hb); (try clear hb2); (try clear hk); (try clear hi); (try clear ho0); have hcz13_0 : w12.cell? ⟨gb594, 0, none⟩ = some (.string a0_0) := (blk_cell BK594.out 0).trans rfl; have hcz13_1 : w12.cell? ⟨gb594, 1, none⟩ = some (.int .u8 a0_1) := (blk_cell BK594.out 1).trans rfl; have hcz13_2 : w12.cell? ⟨gb594, 2, none⟩ = some (.bool a0_2) := (blk_cell BK594.out 2).trans rfl; have hcz13_3 : w12.cell? ⟨gb594, 3, none⟩ = some (.int .i64 a0_3) := (blk_cell BK594.out 3).trans rfl; have hcz13_4 : w12.cell? ⟨gb594, 4, none⟩ = some (.int .i64 a0_4) := (blk_cell BK594.out 4).trans rfl; have hcz13_5 : w12.cell? ⟨gb594, 5, none⟩ = some (.int .i64 a0_5) := (blk_cell BK594.out 5).trans rfl; have hfz13_0 := blk_frozen BK594.out 0; have hfz13_1 := blk_frozen BK594.out 1; have hfz13_2 := blk_frozen BK594.out 2; have hfz13_3 := blk_frozen BK594.out 3; have hfz13_4 := blk_frozen BK594.out 4; have hfz13_5 := blk_frozen BK594.out 5))
   (try simp only [Act.put, List.setIfInBounds_toArray, List.set_cons_zero, List.set_cons_succ])
   go_cut [9] (fun v9 wc => ∃ (kq : Nat) (x9_7 : Int), v9 = .int .u8 x9_7 ∧ Aside0 (sym_Write.j0 kq t597 x9_7 a0_0 a0_1 a0_2 a0_3 a0_4 a0_5 = some (r1, r2)) ∧ Aside0 (kq ≤ k) ∧ Aside0 (Kd.R (Kd.int .u8) 5 wc w.heap.size (fun _ => True) v599 t597) ∧ Aside0 (wc.heap[gb594]? = some (.cells #[.string a0_0, .int .u8 a0_1, .bool a0_2, .int .i64 a0_3, .int .i64 a0_4, .int .i64 a0_5] 64 (0, 0))) ∧ Aside0 (Below w.heap.size w wc))
   case first =>
    have H := HC8.out
    clear HC8
    by_cases c14 : a0_2 = true
    ·
     subst c14
     have H1 : (sym_Write.j0 k t597 2 a0_0 a0_1 true a0_3 a0_4 a0_5) = some (r1, r2) := by rw [if_pos rfl] at H; exact H
     clear H
     have H := H1
     clear H1
     have H' := Aside0.mk H
     clear H
     go_wp2
     go_meet
     case rel => exact ⟨_, (2), (by first | rfl | (simp; done) | (simp [*]; done)), H', ⟨by first | omega | exact Nat.le_refl _⟩, ⟨by (with_reducible repeat (first | apply Kd.R_alloc | apply Kd.R_drewN | apply Kd.R_drew)); exact HO600.out⟩, ⟨by (with_reducible repeat (first | refine blk_drewN ?_ _ | refine blk_drew ?_ | refine blk_alloc ?_ _)); exact BK594.out⟩, ⟨by repeat (first | (with_reducible first | exact HB.out | apply below_alloc | apply pw_below_drewN | apply below_drew1 | refine below_set ?_ GE594.out) | exact HB.out)⟩⟩
    ·
     replace c14 := Bool.eq_false_iff.mpr c14
     subst c14
     have H1 : (sym_Write.j0 k t597 0 a0_0 a0_1 false a0_3 a0_4 a0_5) = some (r1, r2) := by rw [if_neg (show ¬ (false = true) by decide)] at H; exact H
     clear H
     have H := H1
     clear H1
     have H' := Aside0.mk H
     clear H
     go_wp2
     go_meet
     case rel => exact ⟨_, (0), (by first | rfl | (simp; done) | (simp [*]; done)), H', ⟨by first | omega | exact Nat.le_refl _⟩, ⟨by (with_reducible repeat (first | apply Kd.R_alloc | apply Kd.R_drewN | apply Kd.R_drew)); exact HO600.out⟩, ⟨by (with_reducible repeat (first | refine blk_drewN ?_ _ | refine blk_drew ?_ | refine blk_alloc ?_ _)); exact BK594.out⟩, ⟨by repeat (first | (with_reducible first | exact HB.out | apply below_alloc | apply pw_below_drewN | apply below_drew1 | refine below_set ?_ GE594.out) | exact HB.out)⟩⟩
   case rest =>
    clear HC8
    try clear c1
    try clear p2
    try clear c4
    try clear c4b0
    try clear c4b1
    try clear c5
    try clear c6
    try clear c8
    try clear c14
    try clear hcz10_0
    try clear hcz10_1
    try clear hcz10_2
    try clear hcz10_3
    try clear hcz10_4
    try clear hcz10_5
    try clear hcz13_0
    try clear hcz13_1
    try clear hcz13_2
    try clear hcz13_3
    try clear hcz13_4
    try clear hcz13_5
    try clear hfz10_0
    try clear hfz10_1
    try clear hfz10_2
    try clear hfz10_3
    try clear hfz10_4
    try clear hfz10_5
    try clear hfz13_0
    try clear hfz13_1
    try clear hfz13_2
    try clear hfz13_3
    try clear hfz13_4
    try clear hfz13_5
    obtain ⟨kq, x9_7, rfl, HA, HJ7, HO_7, BK594, HB⟩ := hcut
    cases kq with
    | zero => exact absurd HA.out (by simp [sym_Write.j0])
    | succ kj7 =>
     have H := HA.out
     clear HA
     simp only [sym_Write.j0] at H
     have HC15 := Aside0.mk H
     clear H
     have hcz16_0 : wc.cell? ⟨gb594, 0, none⟩ = some (.string a0_0) := (blk_cell BK594.out 0).trans rfl
     have hcz16_1 : wc.cell? ⟨gb594, 1, none⟩ = some (.int .u8 a0_1) := (blk_cell BK594.out 1).trans rfl
     have hcz16_2 : wc.cell? ⟨gb594, 2, none⟩ = some (.bool a0_2) := (blk_cell BK594.out 2).trans rfl
     have hcz16_3 : wc.cell? ⟨gb594, 3, none⟩ = some (.int .i64 a0_3) := (blk_cell BK594.out 3).trans rfl
     have hcz16_4 : wc.cell? ⟨gb594, 4, none⟩ = some (.int .i64 a0_4) := (blk_cell BK594.out 4).trans rfl
     have hcz16_5 : wc.cell? ⟨gb594, 5, none⟩ = some (.int .i64 a0_5) := (blk_cell BK594.out 5).trans rfl
     have hfz16_0 := blk_frozen BK594.out 0
     have hfz16_1 := blk_frozen BK594.out 1
     have hfz16_2 := blk_frozen BK594.out 2
     have hfz16_3 := blk_frozen BK594.out 3
     have hfz16_4 := blk_frozen BK594.out 4
     have hfz16_5 := blk_frozen BK594.out 5
     go_upto_if 35 with (fail)
     go_cut [10] (fun v10 wc => ∃ (kq : Nat) (x10_14 : Int), v10 = .int .u16 x10_14 ∧ Aside0 (sym_Write.j1 kq t597 x9_7 x10_14 a0_0 a0_1 a0_2 a0_3 a0_4 a0_5 = some (r1, r2)) ∧ Aside0 (kq ≤ kj7) ∧ Aside0 (Kd.R (Kd.int .u8) 5 wc w.heap.size (fun _ => True) v599 t597) ∧ Aside0 (wc.heap[gb594]? = some (.cells #[.string a0_0, .int .u8 a0_1, .bool a0_2, .int .i64 a0_3, .int .i64 a0_4, .int .i64 a0_5] 64 (0, 0))) ∧ Aside0 (Below w.heap.size w wc))
     case first =>
      have H := HC15.out
      clear HC15
      by_cases c17 : a0_3 < 0
      ·
       rw [if_pos c17] at H
       have c17b0 : decide (a0_3 < 0) = true := decide_eq_true c17
       clear c17
       (first | rw [c17b0] | (simp only [i64_w, i32_w]; rw [c17b0]) | skip)
       have H' := Aside0.mk H
       clear H
       have hcz18_0 : wc.cell? ⟨gb594, 0, none⟩ = some (.string a0_0) := (blk_cell BK594.out 0).trans rfl
       have hcz18_1 : wc.cell? ⟨gb594, 1, none⟩ = some (.int .u8 a0_1) := (blk_cell BK594.out 1).trans rfl
       have hcz18_2 : wc.cell? ⟨gb594, 2, none⟩ = some (.bool a0_2) := (blk_cell BK594.out 2).trans rfl
       have hcz18_3 : wc.cell? ⟨gb594, 3, none⟩ = some (.int .i64 a0_3) := (blk_cell BK594.out 3).trans rfl
       have hcz18_4 : wc.cell? ⟨gb594, 4, none⟩ = some (.int .i64 a0_4) := (blk_cell BK594.out 4).trans rfl
       have hcz18_5 : wc.cell? ⟨gb594, 5, none⟩ = some (.int .i64 a0_5) := (blk_cell BK594.out 5).trans rfl
       have hfz18_0 := blk_frozen BK594.out 0
       have hfz18_1 := blk_frozen BK594.out 1
       have hfz18_2 := blk_frozen BK594.out 2
       have hfz18_3 := blk_frozen BK594.out 3
       have hfz18_4 := blk_frozen BK594.out 4
       have hfz18_5 := blk_frozen BK594.out 5
       go_wp2
       go_meet
       case rel => exact ⟨_, (IntKind.u16.wrap (65520 + (IntKind.u16.wrap (wrap64 (-a0_3))))), (by first | rfl | (simp; done) | (simp [*]; done)), H', ⟨by have := HJ7.out; first | omega | exact Nat.le_refl _⟩, ⟨by (with_reducible repeat (first | apply Kd.R_alloc | apply Kd.R_drewN | apply Kd.R_drew)); exact HO_7.out⟩, ⟨by (with_reducible repeat (first | refine blk_drewN ?_ _ | refine blk_drew ?_ | refine blk_alloc ?_ _)); exact BK594.out⟩, ⟨by repeat (first | (with_reducible first | exact HB.out | apply below_alloc | apply pw_below_drewN | apply below_drew1 | refine below_set ?_ GE594.out) | exact HB.out)⟩⟩
      ·
       rw [if_neg c17] at H
       have c17b0 : decide (a0_3 < 0) = false := decide_eq_false c17
       clear c17
       (first | rw [c17b0] | (simp only [i64_w, i32_w]; rw [c17b0]) | skip)
       have H' := Aside0.mk H
       clear H
       go_wp2
       go_meet
       case rel => exact ⟨_, (IntKind.u16.wrap (a0_3)), (by first | rfl | (simp; done) | (simp [*]; done)), H', ⟨by have := HJ7.out; first | omega | exact Nat.le_refl _⟩, ⟨by (with_reducible repeat (first | apply Kd.R_alloc | apply Kd.R_drewN | apply Kd.R_drew)); exact HO_7.out⟩, ⟨by (with_reducible repeat (first | refine blk_drewN ?_ _ | refine blk_drew ?_ | refine blk_alloc ?_ _)); exact BK594.out⟩, ⟨by repeat (first | (with_reducible first | exact HB.out | apply below_alloc | apply pw_below_drewN | apply below_drew1 | refine below_set ?_ GE594.out) | exact HB.out)⟩⟩
     case rest =>
      clear HC15
      try clear c1
      try clear p2
      try clear c4
      try clear c4b0
      try clear c4b1
      try clear c5
      try clear c6
      try clear p6
      try clear c8
      try clear c14
      try clear c17
      try clear c17b0
      try clear hcz10_0
      try clear hcz10_1
      try clear hcz10_2
      try clear hcz10_3
      try clear hcz10_4
      try clear hcz10_5
      try clear hcz13_0
      try clear hcz13_1
      try clear hcz13_2
      try clear hcz13_3
      try clear hcz13_4
      try clear hcz13_5
      try clear hcz16_0
      try clear hcz16_1
      try clear hcz16_2
      try clear hcz16_3
      try clear hcz16_4
      try clear hcz16_5
      try clear hcz18_0
      try clear hcz18_1
      try clear hcz18_2
      try clear hcz18_3
      try clear hcz18_4
      try clear hcz18_5
      try clear hfz10_0
      try clear hfz10_1
      try clear hfz10_2
      try clear hfz10_3
      try clear hfz10_4
      try clear hfz10_5
      try clear hfz13_0
      try clear hfz13_1
      try clear hfz13_2
      try clear hfz13_3
      try clear hfz13_4
      try clear hfz13_5
      try clear hfz16_0
      try clear hfz16_1
      try clear hfz16_2
      try clear hfz16_3
      try clear hfz16_4
      try clear hfz16_5
      try clear hfz18_0
      try clear hfz18_1
      try clear hfz18_2
      try clear hfz18_3
      try clear hfz18_4
      try clear hfz18_5
      try clear p2
      obtain ⟨kq, x10_14, rfl, HA, HJ14, HO_7, BK594, HB⟩ := hcut
      cases kq with
      | zero => exact absurd HA.out (by simp [sym_Write.j1])
      | succ kj14 =>
       have H := HA.out
       clear HA
       simp only [sym_Write.j1] at H
       obtain ⟨y601, hy601⟩ : ∃ y_ : List Int, y_ = (([(a0_1 * 16) % 256, x9_7, (x10_14) % 256, (x10_14 / 256) % 256] : List Int)) := ⟨_, rfl⟩
       replace H : (if t597.length + y601.length < 140737488355328 then ((some (([a0_4, a0_5] : List Int) : List Int)).bind fun y607 => (sym_Write.l0 kj14 (t597 ++ y601) y607 (y607.length : Int) 0)) else (none)) = some (r1, r2) := by first | (rw [hy601]; with_reducible exact H) | (have H2_ := (Option.bind_some _ _).symm.trans H; rw [hy601]; with_reducible exact H2_) | (have H2_ := (Option.bind_some _ _).symm.trans H; with_reducible exact H2_) | with_reducible exact H | (rw [hy601]; exact H) | exact H
       have Ny601 := Aside0.mk hy601
       clear hy601
       by_cases c19 : t597.length + y601.length < 140737488355328
       ·
        rw [if_pos c19] at H
        have LMc19 := Aside0.mk c19
        clear c19
        obtain ⟨y604, hy604⟩ : ∃ y_ : List Int, y_ = (t597 ++ y601) := ⟨_, rfl⟩
        replace H : ((some (([a0_4, a0_5] : List Int) : List Int)).bind fun y607 => (sym_Write.l0 kj14 y604 y607 (y607.length : Int) 0)) = some (r1, r2) := by first | (rw [hy604]; with_reducible exact H) | (have H2_ := (Option.bind_some _ _).symm.trans H; rw [hy604]; with_reducible exact H2_) | (have H2_ := (Option.bind_some _ _).symm.trans H; with_reducible exact H2_) | with_reducible exact H | (rw [hy604]; exact H) | exact H
        have Ny604 := Aside0.mk hy604
        clear hy604
        obtain ⟨y607, hy607⟩ : ∃ y_ : List Int, y_ = (([a0_4, a0_5] : List Int)) := ⟨_, rfl⟩
        replace H : (sym_Write.l0 kj14 y604 y607 (y607.length : Int) 0) = some (r1, r2) := by first | (rw [hy607]; with_reducible exact H) | (have H2_ := (Option.bind_some _ _).symm.trans H; rw [hy607]; with_reducible exact H2_) | (have H2_ := (Option.bind_some _ _).symm.trans H; with_reducible exact H2_) | with_reducible exact H | (rw [hy607]; exact H) | exact H
        have Ny607 := Aside0.mk hy607
        clear hy607
        have H' := Aside0.mk H
        clear H
        have hcz20_0 : wc.cell? ⟨gb594, 0, none⟩ = some (.string a0_0) := (blk_cell BK594.out 0).trans rfl
        have hcz20_1 : wc.cell? ⟨gb594, 1, none⟩ = some (.int .u8 a0_1) := (blk_cell BK594.out 1).trans rfl
        have hcz20_2 : wc.cell? ⟨gb594, 2, none⟩ = some (.bool a0_2) := (blk_cell BK594.out 2).trans rfl
        have hcz20_3 : wc.cell? ⟨gb594, 3, none⟩ = some (.int .i64 a0_3) := (blk_cell BK594.out 3).trans rfl
        have hcz20_4 : wc.cell? ⟨gb594, 4, none⟩ = some (.int .i64 a0_4) := (blk_cell BK594.out 4).trans rfl
        have hcz20_5 : wc.cell? ⟨gb594, 5, none⟩ = some (.int .i64 a0_5) := (blk_cell BK594.out 5).trans rfl
        have hfz20_0 := blk_frozen BK594.out 0
        have hfz20_1 := blk_frozen BK594.out 1
        have hfz20_2 := blk_frozen BK594.out 2
        have hfz20_3 := blk_frozen BK594.out 3
        have hfz20_4 := blk_frozen BK594.out 4
        have hfz20_5 := blk_frozen BK594.out 5
        go_wp2_with (first | ((with_reducible refine gate_dst (N := 51) rfl ?_); refine Kd.R_lit (Kd.int .u8) _ 5 ?hg (N := 51) ?hd (xs := ([(a0_1 * 16) % 256, x9_7, (x10_14) % 256, (x10_14 / 256) % 256] : List Int)) (inner := [.int .u8 ((a0_1 * 16) % 256), .int .u8 x9_7, .int .u8 ((x10_14) % 256), .int .u8 ((x10_14 / 256) % 256)]) (ok := fun _ => True) (okp := fun _ => True) ?hr ?hp (fun _ hk => hk) trivial (Below.refl _ _) (Nat.le_refl _) (by simp) ?_; (case hd => rfl); (case hg => rfl); (case hr => first | (go_simp; done) | (go_simp; rfl)); (case hp => exact (Reps.one (show Kd.M (Kd.int .u8) _ _ _ ((a0_1 * 16) % 256) [.int .u8 ((a0_1 * 16) % 256)] from rfl) (Reps.one (show Kd.M (Kd.int .u8) _ _ _ x9_7 [.int .u8 x9_7] from rfl) (Reps.one (show Kd.M (Kd.int .u8) _ _ _ ((x10_14) % 256) [.int .u8 ((x10_14) % 256)] from rfl) (Reps.one (show Kd.M (Kd.int .u8) _ _ _ ((x10_14 / 256) % 256) [.int .u8 ((x10_14 / 256) % 256)] from rfl) (Reps.none _ _)))))); intro v602 w21 ho22 hb hg_ hnew_; clear hg_ hnew_; (first | rw [← Ny601.out] at ho22 | (simp only [Int.reduceToNat] at ho22; rw [← Ny601.out] at ho22)); have n0_ := Aside0.mk (Kd.R_elder' (by (with_reducible repeat (first | apply Kd.R_alloc | apply Kd.R_drewN | apply Kd.R_drew)); exact HO_7.out) (Kd.R_base ho22) hb); have n1_ := Aside0.mk (Kd.R_lower (Kd.R_new' ho22 (Kd.R_lt (by (with_reducible repeat (first | apply Kd.R_alloc | apply Kd.R_drewN | apply Kd.R_drew)); exact HO_7.out))) (below_size (by repeat (first | (with_reducible first | exact HB.out | apply below_alloc | apply pw_below_drewN | apply below_drew1 | refine below_set ?_ GE594.out) | exact HB.out)))); have n2_ := Aside0.mk (blk_below (g := gb594) (o := .cells #[.string a0_0, .int .u8 a0_1, .bool a0_2, .int .i64 a0_3, .int .i64 a0_4, .int .i64 a0_5] 64 (0, 0)) (by (with_reducible repeat (first | refine blk_drewN ?_ _ | refine blk_drew ?_ | refine blk_alloc ?_ _)); exact BK594.out) hb); have n3_ := Aside0.mk (below_step (by repeat (first | (with_reducible first | exact HB.out | apply below_alloc | apply pw_below_drewN | apply below_drew1 | refine below_set ?_ GE594.out) | exact HB.out)) hb); clear HO_7; clear BK594; clear HB; have HO_7 := n0_; have HO603 := n1_; have BK594 := n2_; have HB := n3_; clear n0_ n1_ n2_ n3_; clear hb ho22; obtain ⟨Ao24, co24, eo24⟩ := Kd.R_slice HO603.out; subst eo24) | ((with_reducible refine gate_builtin (b := .append) (xs := #[.tmp 41, .tmp 51]) rfl ?_); at_builtin; refine Kd.R_append_rows (Kd.int .u8) (w0 := w) w.heap.size rfl (.tmp 41) (.tmp 51) 24 5 (.int .u8 0) 1 rfl Try.underlying24 info5 rfl (by decide) (by omega) v599 t597 y601 _ _ _ (fun k_ => some k_ ≠ (.slice Ao24 y601.length co24 : Value).ownBlock) (fun _ => False) rfl rfl ?aO ?aR (fun _ _ h => h) (fun _ h => h.elim) ?aF ?aB ?aS ?aL ?_; (case aR => repeat (first | exact (Kd.R_reads' HO603.out).2.2 | (with_reducible refine Kd.C_alloc ?_ _) | (with_reducible refine Kd.C_drewN ?_ _) | (with_reducible refine Kd.C_drew ?_))); (case aB => exact (by repeat (first | (with_reducible first | exact HB.out | apply below_alloc | apply pw_below_drewN | apply below_drew1 | refine below_set ?_ GE594.out) | exact HB.out))); (case aF => exact (fun k_ hk => Kd.fresh' (Kd.R_lt (by (with_reducible repeat (first | apply Kd.R_alloc | apply Kd.R_drewN | apply Kd.R_drew)); exact HO603.out)) k_ hk)); (case aO => exact (by (with_reducible repeat (first | apply Kd.R_alloc | apply Kd.R_drewN | apply Kd.R_drew)); exact Kd.R_mono HO_7.out (fun _ hk => hk.2))); (case aS => exact (below_size (by repeat (first | (with_reducible first | exact HB.out | apply below_alloc | apply pw_below_drewN | apply below_drew1 | refine below_set ?_ GE594.out) | exact HB.out)))); (case aL => have := LMc19.out; omega); intro v605 w23 ho hb hg hat; rw [← Ny604.out] at ho; have n0_ := Aside0.mk (blk_grown (g := gb594) (o := .cells #[.string a0_0, .int .u8 a0_1, .bool a0_2, .int .i64 a0_3, .int .i64 a0_4, .int .i64 a0_5] 64 (0, 0)) (by (with_reducible repeat (first | refine blk_drewN ?_ _ | refine blk_drew ?_ | refine blk_alloc ?_ _)); exact BK594.out) hg (Kd.R_ne HO_7.out BK594.out (by decide))); have n1_ := Aside0.mk (Kd.R_after (ok := (fun _ => True)) (by (with_reducible repeat (first | apply Kd.R_alloc | apply Kd.R_drewN | apply Kd.R_drew)); exact HO603.out) hg hat); have n2_ := Aside0.mk (hb); have n3_ := Aside0.mk (ho); clear BK594; clear HO603; clear HB; clear HO_7; have BK594 := n0_; have HO603 := n1_; have HB := n2_; have HO606 := n3_; clear n0_ n1_ n2_ n3_; clear ho hb hg hat; have hcz25_0 : w23.cell? ⟨gb594, 0, none⟩ = some (.string a0_0) := (blk_cell BK594.out 0).trans rfl; have hcz25_1 : w23.cell? ⟨gb594, 1, none⟩ = some (.int .u8 a0_1) := (blk_cell BK594.out 1).trans rfl; have hcz25_2 : w23.cell? ⟨gb594, 2, none⟩ = some (.bool a0_2) := (blk_cell BK594.out 2).trans rfl; have hcz25_3 : w23.cell? ⟨gb594, 3, none⟩ = some (.int .i64 a0_3) := (blk_cell BK594.out 3).trans rfl; have hcz25_4 : w23.cell? ⟨gb594, 4, none⟩ = some (.int .i64 a0_4) := (blk_cell BK594.out 4).trans rfl; have hcz25_5 : w23.cell? ⟨gb594, 5, none⟩ = some (.int .i64 a0_5) := (blk_cell BK594.out 5).trans rfl; have hfz25_0 := blk_frozen BK594.out 0; have hfz25_1 := blk_frozen BK594.out 1; have hfz25_2 := blk_frozen BK594.out 2; have hfz25_3 := blk_frozen BK594.out 3; have hfz25_4 := blk_frozen BK594.out 4; have hfz25_5 := blk_frozen BK594.out 5) | ((with_reducible refine gate_dst (N := 57) rfl ?_); refine Kd.R_lit (Kd.int .i64) _ 3 ?hg (N := 57) ?hd (xs := ([a0_4, a0_5] : List Int)) (inner := [.int .i64 a0_4, .int .i64 a0_5]) (ok := fun _ => True) (okp := fun _ => True) ?hr ?hp (fun _ hk => hk) trivial (Below.refl _ _) (Nat.le_refl _) (by simp) ?_; (case hd => rfl); (case hg => rfl); (case hr => first | (go_simp; done) | (go_simp; rfl)); (case hp => exact (Reps.one (show Kd.M (Kd.int .i64) _ _ _ a0_4 [.int .i64 a0_4] from rfl) (Reps.one (show Kd.M (Kd.int .i64) _ _ _ a0_5 [.int .i64 a0_5] from rfl) (Reps.none _ _)))); intro v608 w26 ho27 hb hg_ hnew_; clear hg_ hnew_; (first | rw [← Ny607.out] at ho27 | (simp only [Int.reduceToNat] at ho27; rw [← Ny607.out] at ho27)); have n0_ := Aside0.mk (Kd.R_below (by (with_reducible repeat (first | apply Kd.R_alloc | apply Kd.R_drewN | apply Kd.R_drew)); exact HO603.out) hb); have n1_ := Aside0.mk (Kd.R_below (by (with_reducible repeat (first | apply Kd.R_alloc | apply Kd.R_drewN | apply Kd.R_drew)); exact HO606.out) hb); have n2_ := Aside0.mk (Kd.R_lower ho27 (below_size (by repeat (first | (with_reducible first | exact HB.out | apply below_alloc | apply pw_below_drewN | apply below_drew1 | refine below_set ?_ GE594.out) | exact HB.out)))); have n3_ := Aside0.mk (blk_below (g := gb594) (o := .cells #[.string a0_0, .int .u8 a0_1, .bool a0_2, .int .i64 a0_3, .int .i64 a0_4, .int .i64 a0_5] 64 (0, 0)) (by (with_reducible repeat (first | refine blk_drewN ?_ _ | refine blk_drew ?_ | refine blk_alloc ?_ _)); exact BK594.out) hb); have n4_ := Aside0.mk (below_step (by repeat (first | (with_reducible first | exact HB.out | apply below_alloc | apply pw_below_drewN | apply below_drew1 | refine below_set ?_ GE594.out) | exact HB.out)) hb); clear HO603; clear HO606; clear BK594; clear HB; have HO603 := n0_; have HO606 := n1_; have HO609 := n2_; have BK594 := n3_; have HB := n4_; clear n0_ n1_ n2_ n3_ n4_; clear hb ho27; obtain ⟨Ao28, co28, eo28⟩ := Kd.R_slice HO609.out; subst eo28))
        go_loopg [7, 59] kj14 (fun kq v7 v59 w' => ∃ (x7_3 : List Int) (x59_3 : Int), v59 = .int .i64 x59_3 ∧ Aside0 (sym_Write.l0 kq x7_3 y607 (y607.length : Int) x59_3 = some (r1, r2)) ∧ Aside0 (kq ≤ kj14) ∧ Aside0 (Kd.R (Kd.int .u8) 5 w' w.heap.size (fun _ => True) v7 x7_3) ∧ Aside0 (Kd.R (Kd.int .i64) 3 w' w.heap.size (fun _ => True) (.slice Ao28 y607.length co28) y607) ∧ Aside0 (w'.heap[gb594]? = some (.cells #[.string a0_0, .int .u8 a0_1, .bool a0_2, .int .i64 a0_3, .int .i64 a0_4, .int .i64 a0_5] 64 (0, 0))) ∧ Aside0 (Below w.heap.size w w'))
        case atStart => exact ⟨(y604), (0), (by first | rfl | (simp; done) | (simp [*]; done)), H', ⟨Nat.le_refl _⟩, ⟨by (with_reducible repeat (first | apply Kd.R_alloc | apply Kd.R_drewN | apply Kd.R_drew)); exact Kd.R_mono HO606.out (fun _ hk => trivial)⟩, ⟨by (with_reducible repeat (first | apply Kd.R_alloc | apply Kd.R_drewN | apply Kd.R_drew)); exact HO609.out⟩, ⟨by (with_reducible repeat (first | refine blk_drewN ?_ _ | refine blk_drew ?_ | refine blk_alloc ?_ _)); exact BK594.out⟩, ⟨by repeat (first | (with_reducible first | exact HB.out | apply below_alloc | apply pw_below_drewN | apply below_drew1 | refine below_set ?_ GE594.out) | exact HB.out)⟩⟩
        case round =>
         clear H'
         try clear c1
         try clear p2
         try clear c4
         try clear c4b0
         try clear c4b1
         try clear c5
         try clear c6
         try clear p6
         try clear c8
         try clear c14
         try clear c17
         try clear c17b0
         try clear c19
         try clear hcz10_0
         try clear hcz10_1
         try clear hcz10_2
         try clear hcz10_3
         try clear hcz10_4
         try clear hcz10_5
         try clear hcz13_0
         try clear hcz13_1
         try clear hcz13_2
         try clear hcz13_3
         try clear hcz13_4
         try clear hcz13_5
         try clear hcz16_0
         try clear hcz16_1
         try clear hcz16_2
         try clear hcz16_3
         try clear hcz16_4
         try clear hcz16_5
         try clear hcz18_0
         try clear hcz18_1
         try clear hcz18_2
         try clear hcz18_3
         try clear hcz18_4
         try clear hcz18_5
         try clear hcz20_0
         try clear hcz20_1
         try clear hcz20_2
         try clear hcz20_3
         try clear hcz20_4
         try clear hcz20_5
         try clear hcz25_0
         try clear hcz25_1
         try clear hcz25_2
         try clear hcz25_3
         try clear hcz25_4
         try clear hcz25_5
         try clear hfz10_0
         try clear hfz10_1
         try clear hfz10_2
         try clear hfz10_3
         try clear hfz10_4
         try clear hfz10_5
         try clear hfz13_0
         try clear hfz13_1
         try clear hfz13_2
         try clear hfz13_3
         try clear hfz13_4
         try clear hfz13_5
         try clear hfz16_0
         try clear hfz16_1
         try clear hfz16_2
         try clear hfz16_3
         try clear hfz16_4
         try clear hfz16_5
         try clear hfz18_0
         try clear hfz18_1
         try clear hfz18_2
         try clear hfz18_3
         try clear hfz18_4
         try clear hfz18_5
         try clear hfz20_0
         try clear hfz20_1
         try clear hfz20_2
         try clear hfz20_3
         try clear hfz20_4
         try clear hfz20_5
         try clear hfz25_0
         try clear hfz25_1
         try clear hfz25_2
         try clear hfz25_3
         try clear hfz25_4
         try clear hfz25_5
         try clear p2
         try clear p6
         obtain ⟨x7_3, x59_3, rfl, HA, HK3, HO_7, HO_57, BK594, HB⟩ := hrel
         cases gk with
         | zero => exact absurd HA.out (by simp [sym_Write.l0])
         | succ k3 =>
          have H := HA.out
          clear HA
          simp only [sym_Write.l0] at H
          by_cases c29 : x59_3 < (y607.length : Int)
          ·
           rw [if_pos c29] at H
           have c29b0 : decide (x59_3 < (y607.length : Int)) = true := decide_eq_true c29
           clear c29
           by_cases c30 : 0 ≤ x59_3
           ·
            rw [if_pos c30] at H
            have c30b0 : decide (0 ≤ x59_3) = true := decide_eq_true c30
            clear c30
            by_cases c31 : x59_3 < (y607.length : Int)
            ·
             rw [if_pos c31] at H
             have c31b0 : decide (x59_3 < (y607.length : Int)) = true := decide_eq_true c31
             clear c31
             replace H := Option.bind_eq_some_iff.mp H
             obtain ⟨⟨t611, t612⟩, A320, H⟩ := H
             replace H : (if x7_3.length + t611.length < 140737488355328 then (sym_Write.l0 k3 (x7_3 ++ t611) y607 (y607.length : Int) (wrap64 (x59_3 + 1))) else (none)) = some (r1, r2) := H
             have A32 := Aside0.mk A320
             clear A320
             by_cases c33 : x7_3.length + t611.length < 140737488355328
             ·
              rw [if_pos c33] at H
              have LMc33 := Aside0.mk c33
              clear c33
              obtain ⟨y615, hy615⟩ : ∃ y_ : List Int, y_ = (x7_3 ++ t611) := ⟨_, rfl⟩
              replace H : (sym_Write.l0 k3 y615 y607 (y607.length : Int) (wrap64 (x59_3 + 1))) = some (r1, r2) := by first | (rw [hy615]; with_reducible exact H) | (have H2_ := (Option.bind_some _ _).symm.trans H; rw [hy615]; with_reducible exact H2_) | (have H2_ := (Option.bind_some _ _).symm.trans H; with_reducible exact H2_) | with_reducible exact H | (rw [hy615]; exact H) | exact H
              have Ny615 := Aside0.mk hy615
              clear hy615
              have H' := Aside0.mk H
              clear H
              have p610 : 0 ≤ (x59_3 : Int) := of_decide_eq_true (by first | (with_reducible assumption) | assumption)
              have q610 : x59_3 < (y607.length : Int) := of_decide_eq_true (by first | (with_reducible assumption) | assumption)
              obtain ⟨ad610, e610, hx610_0⟩ := Kd.at_int (Kd.R_reads' HO_57.out).2.2 x59_3 p610 q610
              cases e610
              replace p610 := eq_true p610
              replace q610 := eq_true q610
              go_wp2_with (first | ((with_reducible refine gate_callee (f := 68) rfl ?_); refine goesL_ (some 65) rfl rfl Try.func68 (by kernel_rfl) rfl #[.int .i64 (rd y607 x59_3), .int .i64 8] rfl (by (try simp only [List.map_toArray, List.map_cons, List.map_nil]); first | done | rfl | (simp only [List.length_drop, List.length_take]; rfl)) ?_; (with_reducible refine (le_Put.calls k3 (rd y607 x59_3) 8 t611 t612 _ A32.out).mono ?_); rintro e w34 ⟨v613, rfl, ho0, hb⟩; refine ⟨_, rfl, ?_⟩; have n0_ := Aside0.mk (Kd.R_elder' (by (with_reducible repeat (first | apply Kd.R_alloc | apply Kd.R_drewN | apply Kd.R_drew)); exact HO_7.out) (Kd.R_base ho0) hb); have n1_ := Aside0.mk (Kd.R_below (by (with_reducible repeat (first | apply Kd.R_alloc | apply Kd.R_drewN | apply Kd.R_drew)); exact HO_57.out) hb); have n2_ := Aside0.mk (Kd.R_lower (Kd.R_new' ho0 (Kd.R_lt (by (with_reducible repeat (first | apply Kd.R_alloc | apply Kd.R_drewN | apply Kd.R_drew)); exact HO_7.out))) (below_size (by repeat (first | (with_reducible first | exact HB.out | apply below_alloc | apply pw_below_drewN | apply below_drew1 | refine below_set ?_ GE594.out) | exact HB.out)))); have n3_ := Aside0.mk (blk_below (g := gb594) (o := .cells #[.string a0_0, .int .u8 a0_1, .bool a0_2, .int .i64 a0_3, .int .i64 a0_4, .int .i64 a0_5] 64 (0, 0)) (by (with_reducible repeat (first | refine blk_drewN ?_ _ | refine blk_drew ?_ | refine blk_alloc ?_ _)); exact BK594.out) hb); have n4_ := Aside0.mk (below_step (by repeat (first | (with_reducible first | exact HB.out | apply below_alloc | apply pw_below_drewN | apply below_drew1 | refine below_set ?_ GE594.out) | exact HB.out)) hb); clear HO_7; clear HO_57; clear BK594; clear HB; have HO_7 := n0_; have HO_57 := n1_; have HO614 := n2_; have BK594 := n3_; have HB := n4_; clear n0_ n1_ n2_ n3_ n4_; (try clear hb); (try clear hb2); (try clear hk); (try clear hi); (try clear ho0); obtain ⟨Ao36, co36, eo36⟩ := Kd.R_slice HO614.out; subst eo36) | ((with_reducible refine gate_builtin (b := .append) (xs := #[.tmp 68, .tmp 69]) rfl ?_); at_builtin; refine Kd.R_append_rows (Kd.int .u8) (w0 := w) w.heap.size rfl (.tmp 68) (.tmp 69) 24 5 (.int .u8 0) 1 rfl Try.underlying24 info5 rfl (by decide) (by omega) u7 x7_3 t611 _ _ _ (fun k_ => some k_ ≠ (.slice Ao36 t611.length co36 : Value).ownBlock) (fun _ => False) rfl rfl ?aO ?aR (fun _ _ h => h) (fun _ h => h.elim) ?aF ?aB ?aS ?aL ?_; (case aR => repeat (first | exact (Kd.R_reads' HO614.out).2.2 | (with_reducible refine Kd.C_alloc ?_ _) | (with_reducible refine Kd.C_drewN ?_ _) | (with_reducible refine Kd.C_drew ?_))); (case aB => exact (by repeat (first | (with_reducible first | exact HB.out | apply below_alloc | apply pw_below_drewN | apply below_drew1 | refine below_set ?_ GE594.out) | exact HB.out))); (case aF => exact (fun k_ hk => Kd.fresh' (Kd.R_lt (by (with_reducible repeat (first | apply Kd.R_alloc | apply Kd.R_drewN | apply Kd.R_drew)); exact HO614.out)) k_ hk)); (case aO => exact (by (with_reducible repeat (first | apply Kd.R_alloc | apply Kd.R_drewN | apply Kd.R_drew)); exact Kd.R_mono HO_7.out (fun _ hk => hk.2))); (case aS => exact (below_size (by repeat (first | (with_reducible first | exact HB.out | apply below_alloc | apply pw_below_drewN | apply below_drew1 | refine below_set ?_ GE594.out) | exact HB.out)))); (case aL => have := LMc33.out; omega); intro v616 w35 ho hb hg hat; rw [← Ny615.out] at ho; have n0_ := Aside0.mk (Kd.R_over' (by (with_reducible repeat (first | apply Kd.R_alloc | apply Kd.R_drewN | apply Kd.R_drew)); exact HO_57.out) (Kd.R_typed (by (with_reducible repeat (first | apply Kd.R_alloc | apply Kd.R_drewN | apply Kd.R_drew)); exact HO_7.out)) (by decide) hg); have n1_ := Aside0.mk (blk_grown (g := gb594) (o := .cells #[.string a0_0, .int .u8 a0_1, .bool a0_2, .int .i64 a0_3, .int .i64 a0_4, .int .i64 a0_5] 64 (0, 0)) (by (with_reducible repeat (first | refine blk_drewN ?_ _ | refine blk_drew ?_ | refine blk_alloc ?_ _)); exact BK594.out) hg (Kd.R_ne HO_7.out BK594.out (by decide))); have n2_ := Aside0.mk (Kd.R_after (ok := (fun _ => True)) (by (with_reducible repeat (first | apply Kd.R_alloc | apply Kd.R_drewN | apply Kd.R_drew)); exact HO614.out) hg hat); have n3_ := Aside0.mk (hb); have n4_ := Aside0.mk (ho); clear HO_57; clear BK594; clear HO614; clear HB; clear HO_7; have HO_57 := n0_; have BK594 := n1_; have HO614 := n2_; have HB := n3_; have HO617 := n4_; clear n0_ n1_ n2_ n3_ n4_; clear ho hb hg hat))
              go_roundg k3
              case measure => have := HJ7.out; have := HJ14.out; have := HK3.out; omega
              case rel => exact ⟨(y615), (wrap64 (x59_3 + 1)), (by first | rfl | (simp; done) | (simp [*]; done)), H', ⟨by have := HJ7.out; have := HJ14.out; have := HK3.out; omega⟩, ⟨by (with_reducible repeat (first | apply Kd.R_alloc | apply Kd.R_drewN | apply Kd.R_drew)); exact Kd.R_mono HO617.out (fun _ hk => trivial)⟩, ⟨by (with_reducible repeat (first | apply Kd.R_alloc | apply Kd.R_drewN | apply Kd.R_drew)); exact HO_57.out⟩, ⟨by (with_reducible repeat (first | refine blk_drewN ?_ _ | refine blk_drew ?_ | refine blk_alloc ?_ _)); exact BK594.out⟩, ⟨by repeat (first | (with_reducible first | exact HB.out | apply below_alloc | apply pw_below_drewN | apply below_drew1 | refine below_set ?_ GE594.out) | exact HB.out)⟩⟩
             ·
              rw [if_neg c33] at H
              exact absurd H (by simp)
            ·
             rw [if_neg c31] at H
             exact absurd H (by simp)
           ·
            rw [if_neg c30] at H
            exact absurd H (by simp)
          ·
           rw [if_neg c29] at H
           have c29b0 : decide (x59_3 < (y607.length : Int)) = false := decide_eq_false c29
           clear c29
           simp only [Option.some.injEq, Prod.mk.injEq] at H
           obtain ⟨rfl, rfl⟩ := H
           go_wp2
           go_ret2
           exact ⟨_, by first | rfl | (simp [errW_none, errW_some] <;> rfl) | (simp [*, errW_none, errW_some] <;> rfl), by (with_reducible repeat (first | apply Kd.R_alloc | apply Kd.R_drewN | apply Kd.R_drew)); exact HO_7.out, by repeat (first | (with_reducible first | exact HB.out | apply below_alloc | apply pw_below_drewN | apply below_drew1 | refine below_set ?_ GE594.out) | exact HB.out)⟩
       ·
        rw [if_neg c19] at H
        exact absurd H (by simp)
  ·
   replace c6 := Bool.eq_false_iff.mpr c6
   subst c6
   have H1 : (some (([] : List Int), 2)) = some (r1, r2) := by rw [if_neg (show ¬ (false = true) by decide)] at H; exact H
   clear H
   have H := H1
   clear H1
   simp only [Option.some.injEq, Prod.mk.injEq] at H
   obtain ⟨rfl, rfl⟩ := H
   go_enter Try.func51, Try.ntmps51
   go_wp2_with (first | ((with_reducible refine gate_dst (N := 2) rfl ?_); refine box_event ?hg (N := 2) ?hd (cs := #[.string a0_0, .int .u8 a0_1, .bool a0_2, .int .i64 a0_3, .int .i64 a0_4, .int .i64 a0_5]) (t := 64) ?hr ?_; (case hd => rfl); (case hg => rfl); (case hr => first | (go_simp; done) | (go_simp; rfl)); intro gb594 hg w37 hbox hb; have n0_ := Aside0.mk (below_step (by repeat (first | (with_reducible first | exact HB.out | apply below_alloc | apply pw_below_drewN | apply below_drew1) | exact HB.out)) hb); have n1_ := Aside0.mk (hbox); have n2_ := Aside0.mk ((by rw [hg]; exact (below_size (by repeat (first | (with_reducible first | exact HB.out | apply below_alloc | apply pw_below_drewN | apply below_drew1) | exact HB.out))) : w.heap.size ≤ gb594)); have n3_ := Aside0.mk ((by rw [hg]; exact (below_size (by repeat (first | (with_reducible first | exact HB.out | apply below_alloc | apply pw_below_drewN | apply below_drew1) | exact HB.out))) : w.heap.size ≤ gb594)); clear HB; have HB := n0_; have BK594 := n1_; have GW594 := n2_; have GE594 := n3_; clear n0_ n1_ n2_ n3_; clear hb hbox hg; have hcz38_0 : w37.cell? ⟨gb594, 0, none⟩ = some (.string a0_0) := (blk_cell BK594.out 0).trans rfl; have hcz38_1 : w37.cell? ⟨gb594, 1, none⟩ = some (.int .u8 a0_1) := (blk_cell BK594.out 1).trans rfl; have hcz38_2 : w37.cell? ⟨gb594, 2, none⟩ = some (.bool a0_2) := (blk_cell BK594.out 2).trans rfl; have hcz38_3 : w37.cell? ⟨gb594, 3, none⟩ = some (.int .i64 a0_3) := (blk_cell BK594.out 3).trans rfl; have hcz38_4 : w37.cell? ⟨gb594, 4, none⟩ = some (.int .i64 a0_4) := (blk_cell BK594.out 4).trans rfl; have hcz38_5 : w37.cell? ⟨gb594, 5, none⟩ = some (.int .i64 a0_5) := (blk_cell BK594.out 5).trans rfl; have hfz38_0 := blk_frozen BK594.out 0; have hfz38_1 := blk_frozen BK594.out 1; have hfz38_2 := blk_frozen BK594.out 2; have hfz38_3 := blk_frozen BK594.out 3; have hfz38_4 := blk_frozen BK594.out 4; have hfz38_5 := blk_frozen BK594.out 5) | ((with_reducible refine gate_callee (f := 50) rfl ?_); refine goesL_ (some 16) rfl rfl Try.func50 (by kernel_rfl) rfl #[.agg #[.string a0_0, .int .u8 a0_1, .bool a0_2, .int .i64 a0_3, .int .i64 a0_4, .int .i64 a0_5], .int .i64 16] rfl (by (try simp only [List.map_toArray, List.map_cons, List.map_nil]); first | done | rfl | (simp only [List.length_drop, List.length_take]; rfl)) ?_; (with_reducible refine (sym_Check.calls k a0_0 a0_1 a0_2 a0_3 a0_4 a0_5 16 t595 _ A3.out).mono ?_); rintro e w39 ⟨rfl, hb⟩; refine ⟨_, rfl, ?_⟩; have n0_ := Aside0.mk (blk_below (g := gb594) (o := .cells #[.string a0_0, .int .u8 a0_1, .bool a0_2, .int .i64 a0_3, .int .i64 a0_4, .int .i64 a0_5] 64 (0, 0)) (by (with_reducible repeat (first | refine blk_drewN ?_ _ | refine blk_drew ?_ | refine blk_alloc ?_ _)); exact BK594.out) hb); have n1_ := Aside0.mk (below_step (by repeat (first | (with_reducible first | exact HB.out | apply below_alloc | apply pw_below_drewN | apply below_drew1 | refine below_set ?_ GE594.out) | exact HB.out)) hb); clear BK594; clear HB; have BK594 := n0_; have HB := n1_; clear n0_ n1_; (try clear hb); (try clear hb2); (try clear hk); (try clear hi)) | ((with_reducible refine gate_callee (f := 87) rfl ?_); refine goesL_ (some 21) rfl rfl Try.func87 (by kernel_rfl) rfl #[.int .i64 a1, .int .i64 0, .int .i64 65535] rfl (by (try simp only [List.map_toArray, List.map_cons, List.map_nil]); first | done | rfl | (simp only [List.length_drop, List.length_take]; rfl)) ?_; (with_reducible refine (sym_in.calls a1 0 65535 false _ A5.out).mono ?_); rintro e w' ⟨rfl, ⟨nd, rfl⟩⟩; refine ⟨_, rfl, ?_⟩))
   go_ret2
   exact ⟨_, by first | rfl | (simp [errW_none, errW_some] <;> rfl) | (simp [*, errW_none, errW_some] <;> rfl), by first | exact Kd.R_nil _ _ _ _ _ | exact Kd.N_nil _ _ _ _ _ | exact Kd.V_nil _ _ _ _ _ | exact Kd.Q_nil _ _ _ _ _ | exact Kd.S_nil _ _ _ _ _, by repeat (first | (with_reducible first | exact HB.out | apply below_alloc | apply pw_below_drewN | apply below_drew1 | refine below_set ?_ GE594.out) | exact HB.out)⟩
 ·
  rw [if_neg c4] at H
  have c4b0 : (t595 == 0) = false := beq_eq_false_iff_ne.mpr c4
  have c4b1 : (t595 != 0) = true := bne_iff_ne.mpr c4
  simp only [Option.some.injEq, Prod.mk.injEq] at H
  obtain ⟨rfl, rfl⟩ := H
  go_enter Try.func51, Try.ntmps51
  go_wp2_with (first | ((with_reducible refine gate_dst (N := 2) rfl ?_); refine box_event ?hg (N := 2) ?hd (cs := #[.string a0_0, .int .u8 a0_1, .bool a0_2, .int .i64 a0_3, .int .i64 a0_4, .int .i64 a0_5]) (t := 64) ?hr ?_; (case hd => rfl); (case hg => rfl); (case hr => first | (go_simp; done) | (go_simp; rfl)); intro gb594 hg w40 hbox hb; have n0_ := Aside0.mk (below_step (by repeat (first | (with_reducible first | exact HB.out | apply below_alloc | apply pw_below_drewN | apply below_drew1) | exact HB.out)) hb); have n1_ := Aside0.mk (hbox); have n2_ := Aside0.mk ((by rw [hg]; exact (below_size (by repeat (first | (with_reducible first | exact HB.out | apply below_alloc | apply pw_below_drewN | apply below_drew1) | exact HB.out))) : w.heap.size ≤ gb594)); have n3_ := Aside0.mk ((by rw [hg]; exact (below_size (by repeat (first | (with_reducible first | exact HB.out | apply below_alloc | apply pw_below_drewN | apply below_drew1) | exact HB.out))) : w.heap.size ≤ gb594)); clear HB; have HB := n0_; have BK594 := n1_; have GW594 := n2_; have GE594 := n3_; clear n0_ n1_ n2_ n3_; clear hb hbox hg; have hcz41_0 : w40.cell? ⟨gb594, 0, none⟩ = some (.string a0_0) := (blk_cell BK594.out 0).trans rfl; have hcz41_1 : w40.cell? ⟨gb594, 1, none⟩ = some (.int .u8 a0_1) := (blk_cell BK594.out 1).trans rfl; have hcz41_2 : w40.cell? ⟨gb594, 2, none⟩ = some (.bool a0_2) := (blk_cell BK594.out 2).trans rfl; have hcz41_3 : w40.cell? ⟨gb594, 3, none⟩ = some (.int .i64 a0_3) := (blk_cell BK594.out 3).trans rfl; have hcz41_4 : w40.cell? ⟨gb594, 4, none⟩ = some (.int .i64 a0_4) := (blk_cell BK594.out 4).trans rfl; have hcz41_5 : w40.cell? ⟨gb594, 5, none⟩ = some (.int .i64 a0_5) := (blk_cell BK594.out 5).trans rfl; have hfz41_0 := blk_frozen BK594.out 0; have hfz41_1 := blk_frozen BK594.out 1; have hfz41_2 := blk_frozen BK594.out 2; have hfz41_3 := blk_frozen BK594.out 3; have hfz41_4 := blk_frozen BK594.out 4; have hfz41_5 := blk_frozen BK594.out 5) | ((with_reducible refine gate_callee (f := 50) rfl ?_); refine goesL_ (some 16) rfl rfl Try.func50 (by kernel_rfl) rfl #[.agg #[.string a0_0, .int .u8 a0_1, .bool a0_2, .int .i64 a0_3, .int .i64 a0_4, .int .i64 a0_5], .int .i64 16] rfl (by (try simp only [List.map_toArray, List.map_cons, List.map_nil]); first | done | rfl | (simp only [List.length_drop, List.length_take]; rfl)) ?_; (with_reducible refine (sym_Check.calls k a0_0 a0_1 a0_2 a0_3 a0_4 a0_5 16 t595 _ A3.out).mono ?_); rintro e w42 ⟨rfl, hb⟩; refine ⟨_, rfl, ?_⟩; have n0_ := Aside0.mk (blk_below (g := gb594) (o := .cells #[.string a0_0, .int .u8 a0_1, .bool a0_2, .int .i64 a0_3, .int .i64 a0_4, .int .i64 a0_5] 64 (0, 0)) (by (with_reducible repeat (first | refine blk_drewN ?_ _ | refine blk_drew ?_ | refine blk_alloc ?_ _)); exact BK594.out) hb); have n1_ := Aside0.mk (below_step (by repeat (first | (with_reducible first | exact HB.out | apply below_alloc | apply pw_below_drewN | apply below_drew1 | refine below_set ?_ GE594.out) | exact HB.out)) hb); clear BK594; clear HB; have BK594 := n0_; have HB := n1_; clear n0_ n1_; (try clear hb); (try clear hb2); (try clear hk); (try clear hi)))
  go_ret2
  exact ⟨_, by first | rfl | (simp [errW_none, errW_some] <;> rfl) | (simp [*, errW_none, errW_some] <;> rfl), by first | exact Kd.R_nil _ _ _ _ _ | exact Kd.N_nil _ _ _ _ _ | exact Kd.V_nil _ _ _ _ _ | exact Kd.Q_nil _ _ _ _ _ | exact Kd.S_nil _ _ _ _ _, by repeat (first | (with_reducible first | exact HB.out | apply below_alloc | apply pw_below_drewN | apply below_drew1 | refine below_set ?_ GE594.out) | exact HB.out)⟩

end Go.Proofs.Ytomabnfeipobnaa.P
