-- Written by pext.py, a program of this session, over the kit's print: a function's contract
import Derived.Test.YtomabnfeipobnaaPx0
import Derived.Test.YtomabnfeipobnaaPx4
import Derived.Test.YtomabnfeipobnaaPx6
import Derived.Test.YtomabnfeipobnaaPx12
namespace Go.Proofs.Ytomabnfeipobnaa.P
open Go.RowKit Go.Proofs.YtomabnfeipobnaaW.PrintWords Go.Proofs.YtomabnfeipobnaaW.PrintLast Go.Proofs.YtomabnfeipobnaaW.PrintMore
attribute [local go_sem] max2_int min2_int max_two min_two max_three min_three max_four min_four   -- for this text's walks alone
set_option linter.unusedVariables false
set_option linter.unusedSimpArgs false

/-! ### quoinlaw09_graphic: function 40 -/
def quoinlaw09_graphic.l0 : Nat → ByteArray → Int → Option (Bool)
 | 0, _, _ => none
 | k + 1, x0, x3 => if x3 < (x0.size : Int) then (if 0 ≤ x3 then (if (bt x0 x3) < 33 then (some false) else (if (bt x0 x3) > 126 then (some false) else (quoinlaw09_graphic.l0 k x0 (wrap64 (x3 + 1))))) else (none)) else (some true)
def quoinlaw09_graphic.f (k : Nat) (a0 : ByteArray) : Option (Bool) := quoinlaw09_graphic.l0 k a0 0
theorem quoinlaw09_graphic.mono_l : ∀ k, (∀ y0 y1, LeO (quoinlaw09_graphic.l0 k y0 y1) (quoinlaw09_graphic.l0 (k + 1) y0 y1))
 | 0 => fun _ _ r h => by simp [quoinlaw09_graphic.l0] at h
 | k + 1 => by
  have ih0 := quoinlaw09_graphic.mono_l k
  ·
   intro y0 y1
   unfold quoinlaw09_graphic.l0
   repeat' first
   | (with_reducible exact ih0 _ _)
   | (with_reducible exact LeO.refl _)
   | (with_reducible exact LeO.none _)
   | (with_reducible refine LeO.ite ?_ ?_)
   | (with_reducible refine LeO.bind ?_ (fun _ => ?_))
   | exact ih0 _ _
   | exact LeO.none _
   | refine LeO.ite ?_ ?_
   | refine LeO.bind ?_ (fun _ => ?_)
theorem quoinlaw09_graphic.mono : ∀ a0 k, LeO (quoinlaw09_graphic.f k a0) (quoinlaw09_graphic.f (k + 1) a0) := by
 intro a0 k
 have ih0 := quoinlaw09_graphic.mono_l k
 unfold quoinlaw09_graphic.f
 repeat' first
   | (with_reducible exact ih0 _ _)
   | (with_reducible exact LeO.refl _)
   | (with_reducible exact LeO.none _)
   | (with_reducible refine LeO.ite ?_ ?_)
   | (with_reducible refine LeO.bind ?_ (fun _ => ?_))
   | exact ih0 _ _
   | exact LeO.none _
   | refine LeO.ite ?_ ?_
   | refine LeO.bind ?_ (fun _ => ?_)
set_option maxHeartbeats 8000000 in
set_option maxRecDepth 100000 in
theorem quoinlaw09_graphic.calls (k : Nat) (a0 : ByteArray) (r : Bool) (w : World) (h : quoinlaw09_graphic.f k a0 = some r) :
  Calls Try.prog 40 #[.string a0] w fun e w' => e = .returned (.bool r) ∧ Drawn0 w w' := by
 have H : (quoinlaw09_graphic.l0 k a0 0) = some r := h
 clear h
 have H' := Aside0.mk H
 clear H
 go_enter Try.func40, Try.ntmps40
 go_wp2
 go_loopg [3] k (fun kq v3 w' => ∃ (x3_1 : Int), v3 = .int .i64 x3_1 ∧ Aside0 (quoinlaw09_graphic.l0 kq a0 x3_1 = some r) ∧ Aside0 (kq ≤ k) ∧ Drawn0 w w')
 case atStart => exact ⟨(0), (by first | rfl | (simp; done) | (simp [*]; done)), H', ⟨Nat.le_refl _⟩, by repeat (first | exact Drawn0.refl _ | apply Drawn0.step)⟩
 case round =>
  clear H'
  obtain ⟨x3_1, rfl, HA, HK1, ⟨m1, rfl⟩⟩ := hrel
  cases gk with
  | zero => exact absurd HA.out (by simp [quoinlaw09_graphic.l0])
  | succ k1 =>
   have H := HA.out
   clear HA
   simp only [quoinlaw09_graphic.l0] at H
   by_cases c2 : x3_1 < (a0.size : Int)
   ·
    rw [if_pos c2] at H
    have c2b0 : decide (x3_1 < (a0.size : Int)) = true := decide_eq_true c2
    clear c2
    by_cases c3 : 0 ≤ x3_1
    ·
     rw [if_pos c3] at H
     have c3b0 : decide (0 ≤ x3_1) = true := decide_eq_true c3
     clear c3
     by_cases c5 : (bt a0 x3_1) < 33
     ·
      rw [if_pos c5] at H
      have c5b0 : decide ((bt a0 x3_1) < 33) = true := decide_eq_true c5
      clear c5
      obtain rfl := Option.some.inj H
      have p4 : 0 ≤ (x3_1 : Int) := of_decide_eq_true (by first | (with_reducible assumption) | assumption)
      have q4 : x3_1 < (a0.size : Int) := of_decide_eq_true (by first | (with_reducible assumption) | assumption)
      have hx4 := bt_at a0 x3_1
      replace p4 := eq_true p4
      replace q4 := eq_true q4
      go_wp2
      go_ret
      exact ⟨by first | rfl | (simp; done) | (simp [*]; done), by repeat (first | exact Drawn0.refl _ | apply Drawn0.step)⟩
     ·
      rw [if_neg c5] at H
      have c5b0 : decide ((bt a0 x3_1) < 33) = false := decide_eq_false c5
      clear c5
      by_cases c7 : (bt a0 x3_1) > 126
      ·
       rw [if_pos c7] at H
       have c7b0 : decide (126 < (bt a0 x3_1)) = true := decide_eq_true c7
       clear c7
       obtain rfl := Option.some.inj H
       have p4 : 0 ≤ (x3_1 : Int) := of_decide_eq_true (by first | (with_reducible assumption) | assumption)
       have q4 : x3_1 < (a0.size : Int) := of_decide_eq_true (by first | (with_reducible assumption) | assumption)
       have hx4 := bt_at a0 x3_1
       replace p4 := eq_true p4
       replace q4 := eq_true q4
       have p6 : 0 ≤ (x3_1 : Int) := of_decide_eq_true (by first | (with_reducible assumption) | assumption)
       have q6 : x3_1 < (a0.size : Int) := of_decide_eq_true (by first | (with_reducible assumption) | assumption)
       have hx6 := bt_at a0 x3_1
       replace p6 := eq_true p6
       replace q6 := eq_true q6
       go_wp2
       go_ret
       exact ⟨by first | rfl | (simp; done) | (simp [*]; done), by repeat (first | exact Drawn0.refl _ | apply Drawn0.step)⟩
      ·
       rw [if_neg c7] at H
       have c7b0 : decide (126 < (bt a0 x3_1)) = false := decide_eq_false c7
       clear c7
       have H' := Aside0.mk H
       clear H
       have p4 : 0 ≤ (x3_1 : Int) := of_decide_eq_true (by first | (with_reducible assumption) | assumption)
       have q4 : x3_1 < (a0.size : Int) := of_decide_eq_true (by first | (with_reducible assumption) | assumption)
       have hx4 := bt_at a0 x3_1
       replace p4 := eq_true p4
       replace q4 := eq_true q4
       have p6 : 0 ≤ (x3_1 : Int) := of_decide_eq_true (by first | (with_reducible assumption) | assumption)
       have q6 : x3_1 < (a0.size : Int) := of_decide_eq_true (by first | (with_reducible assumption) | assumption)
       have hx6 := bt_at a0 x3_1
       replace p6 := eq_true p6
       replace q6 := eq_true q6
       go_wp2
       go_roundg k1
       case measure => have := HK1.out; omega
       case rel => exact ⟨(wrap64 (x3_1 + 1)), (by first | rfl | (simp; done) | (simp [*]; done)), H', ⟨by have := HK1.out; omega⟩, by repeat (first | exact Drawn0.refl _ | apply Drawn0.step)⟩
    ·
     rw [if_neg c3] at H
     exact absurd H (by simp)
   ·
    rw [if_neg c2] at H
    have c2b0 : decide (x3_1 < (a0.size : Int)) = false := decide_eq_false c2
    clear c2
    obtain rfl := Option.some.inj H
    go_wp2
    go_ret
    exact ⟨by first | rfl | (simp; done) | (simp [*]; done), by repeat (first | exact Drawn0.refl _ | apply Drawn0.step)⟩

/-! ### quoinlaw09_SectKinds: function 7 -/
mutual
def quoinlaw09_SectKinds.j0 : Nat → ByteArray → ByteArray → Bool → Bool → ByteArray → Int → List Int → Int → Option (Bool)
 | 0, _, _, _, _, _, _, _, _ => none
 | k + 1, x0, x1, x7, x23, x359000, x359001, x359002, x359003 => if x23 = true then (some x7) else ((sect_Kind.f x0).bind fun bt360 => (if x0.size + 1 ≤ 9223372036854775807 then (if (x0 ++ (⟨#[46]⟩ : ByteArray)).size + x1.size ≤ 9223372036854775807 then ((sect_Kind.f ((x0 ++ (⟨#[46]⟩ : ByteArray)) ++ x1)).bind fun bt362 => (if bt360.2 = 0 then (if bt362.2 = 0 then (if bt360.1 = bt362.1 then (quoinlaw09_SectKinds.j1 k x7 false x359000 x359001 x359002 x359003) else (none)) else (if (((x0 ++ (⟨#[46]⟩ : ByteArray)) ++ x1).size : Int) ≤ 32 then ((quoinlaw09_graphic.f k x1).bind fun t364 => (quoinlaw09_SectKinds.j1 k x7 t364 x359000 x359001 x359002 x359003)) else (quoinlaw09_SectKinds.j1 k x7 false x359000 x359001 x359002 x359003))) else (quoinlaw09_SectKinds.j1 k x7 false x359000 x359001 x359002 x359003))) else (none)) else (none)))
def quoinlaw09_SectKinds.j1 : Nat → Bool → Bool → ByteArray → Int → List Int → Int → Option (Bool)
 | 0, _, _, _, _, _, _ => none
 | k + 1, x7, x66, x359000, x359001, x359002, x359003 => if x66 = true then (none) else ((sect_Check.f k x359000 x359001 x359002 x359003).bind fun t365 => (if t365 = 0 then ((sect_Kind.f x359000).bind fun bt366 => (if x7 = true then (if bt366.2 = 0 then (if (wrap64 ((x359002.length : Int) + x359003)) ≤ 4096 then (if bt366.1 = 4 then (if (x359002.length : Int) = 0 then (if x359001 > 0 then (if x359001 = 0 then (none) else (some (((64 : Int) % x359001) == 0))) else (none)) else (if x359003 = 0 then (if x359001 > 0 then (if x359001 = 0 then (none) else (some (((64 : Int) % x359001) == 0))) else (none)) else (none))) else (if (x359002.length : Int) = 0 then (if x359001 > 0 then (if x359001 = 0 then (none) else (some (((64 : Int) % x359001) == 0))) else (none)) else (if x359003 = 0 then (if x359001 > 0 then (if x359001 = 0 then (none) else (some (((64 : Int) % x359001) == 0))) else (none)) else (none)))) else (none)) else (none)) else (none))) else (some x7)))
end
def quoinlaw09_SectKinds.f (k : Nat) (a0 : ByteArray) (a1 : ByteArray) (a2_0 : ByteArray) (a2_1 : Int) (l2_2 : List Int) (a2_3 : Int) : Option (Bool) := (quoinlaw09_alive.f k).bind fun t359 => (if (a0.size : Int) > 1000 then (quoinlaw09_SectKinds.j0 k a0 a1 t359 true a2_0 a2_1 l2_2 a2_3) else (quoinlaw09_SectKinds.j0 k a0 a1 t359 (decide ((a1.size : Int) > 1000)) a2_0 a2_1 l2_2 a2_3))
theorem quoinlaw09_SectKinds.mono_l : ∀ k, (∀ y0 y1 y2 y3 y4 y5 y6 y7, LeO (quoinlaw09_SectKinds.j0 k y0 y1 y2 y3 y4 y5 y6 y7) (quoinlaw09_SectKinds.j0 (k + 1) y0 y1 y2 y3 y4 y5 y6 y7)) ∧ (∀ y0 y1 y2 y3 y4 y5, LeO (quoinlaw09_SectKinds.j1 k y0 y1 y2 y3 y4 y5) (quoinlaw09_SectKinds.j1 (k + 1) y0 y1 y2 y3 y4 y5))
 | 0 => ⟨fun _ _ _ _ _ _ _ _ r h => by simp [quoinlaw09_SectKinds.j0] at h, fun _ _ _ _ _ _ r h => by simp [quoinlaw09_SectKinds.j1] at h⟩
 | k + 1 => by
  obtain ⟨ih0, ih1⟩ := quoinlaw09_SectKinds.mono_l k
  refine ⟨?_, ?_⟩
  ·
   intro y0 y1 y2 y3 y4 y5 y6 y7
   unfold quoinlaw09_SectKinds.j0
   repeat' first
   | (with_reducible exact ih0 _ _ _ _ _ _ _ _)
   | (with_reducible exact ih1 _ _ _ _ _ _)
   | (with_reducible exact quoinlaw09_alive.mono _)
   | (with_reducible exact quoinlaw09_graphic.mono _ _)
   | (with_reducible exact sect_Check.mono _ _ _ _ _)
   | (with_reducible exact LeO.refl _)
   | (with_reducible exact LeO.none _)
   | (with_reducible refine LeO.ite ?_ ?_)
   | (with_reducible refine LeO.bind ?_ (fun _ => ?_))
   | exact ih0 _ _ _ _ _ _ _ _
   | exact ih1 _ _ _ _ _ _
   | exact quoinlaw09_alive.mono _
   | exact quoinlaw09_graphic.mono _ _
   | exact sect_Check.mono _ _ _ _ _
   | exact LeO.none _
   | refine LeO.ite ?_ ?_
   | refine LeO.bind ?_ (fun _ => ?_)
  ·
   intro y0 y1 y2 y3 y4 y5
   unfold quoinlaw09_SectKinds.j1
   repeat' first
   | (with_reducible exact ih0 _ _ _ _ _ _ _ _)
   | (with_reducible exact ih1 _ _ _ _ _ _)
   | (with_reducible exact quoinlaw09_alive.mono _)
   | (with_reducible exact quoinlaw09_graphic.mono _ _)
   | (with_reducible exact sect_Check.mono _ _ _ _ _)
   | (with_reducible exact LeO.refl _)
   | (with_reducible exact LeO.none _)
   | (with_reducible refine LeO.ite ?_ ?_)
   | (with_reducible refine LeO.bind ?_ (fun _ => ?_))
   | exact ih0 _ _ _ _ _ _ _ _
   | exact ih1 _ _ _ _ _ _
   | exact quoinlaw09_alive.mono _
   | exact quoinlaw09_graphic.mono _ _
   | exact sect_Check.mono _ _ _ _ _
   | exact LeO.none _
   | refine LeO.ite ?_ ?_
   | refine LeO.bind ?_ (fun _ => ?_)
theorem quoinlaw09_SectKinds.mono : ∀ a0 a1 a2 a3 a4 a5 k, LeO (quoinlaw09_SectKinds.f k a0 a1 a2 a3 a4 a5) (quoinlaw09_SectKinds.f (k + 1) a0 a1 a2 a3 a4 a5) := by
 intro a0 a1 a2 a3 a4 a5 k
 obtain ⟨ih0, ih1⟩ := quoinlaw09_SectKinds.mono_l k
 unfold quoinlaw09_SectKinds.f
 repeat' first
   | (with_reducible exact ih0 _ _ _ _ _ _ _ _)
   | (with_reducible exact ih1 _ _ _ _ _ _)
   | (with_reducible exact quoinlaw09_alive.mono _)
   | (with_reducible exact quoinlaw09_graphic.mono _ _)
   | (with_reducible exact sect_Check.mono _ _ _ _ _)
   | (with_reducible exact LeO.refl _)
   | (with_reducible exact LeO.none _)
   | (with_reducible refine LeO.ite ?_ ?_)
   | (with_reducible refine LeO.bind ?_ (fun _ => ?_))
   | exact ih0 _ _ _ _ _ _ _ _
   | exact ih1 _ _ _ _ _ _
   | exact quoinlaw09_alive.mono _
   | exact quoinlaw09_graphic.mono _ _
   | exact sect_Check.mono _ _ _ _ _
   | exact LeO.none _
   | refine LeO.ite ?_ ?_
   | refine LeO.bind ?_ (fun _ => ?_)
set_option maxHeartbeats 8000000 in
set_option maxRecDepth 100000 in
theorem quoinlaw09_SectKinds.calls (k : Nat) (a0 : ByteArray) (a1 : ByteArray) (a2_0 : ByteArray) (a2_1 : Int) (A2_2 : Option Addr) (c2_2 : Nat) (l2_2 : List Int) (a2_3 : Int) (r : Bool) (w : World) (hr2_2 : Kd.C (Kd.int .u8) w A2_2 l2_2.length l2_2) (hc2_2 : l2_2.length ≤ c2_2) (h : quoinlaw09_SectKinds.f k a0 a1 a2_0 a2_1 l2_2 a2_3 = some r) :
  Calls Try.prog 7 #[.string a0, .string a1, .agg #[.string a2_0, .int .i64 a2_1, .slice A2_2 l2_2.length c2_2, .int .i64 a2_3]] w fun e w' => e = .returned (.bool r) ∧ Below w.heap.size w w' := by
 have hu36 := Try.underlying36
 have HR2_2 := Aside0.mk hr2_2
 have HC2_2 := Aside0.mk hc2_2
 clear hr2_2 hc2_2
 have HB := Aside0.mk (Below.refl w.heap.size w)
 have H : ((quoinlaw09_alive.f k).bind fun t359 => (if (a0.size : Int) > 1000 then (quoinlaw09_SectKinds.j0 k a0 a1 t359 true a2_0 a2_1 l2_2 a2_3) else (quoinlaw09_SectKinds.j0 k a0 a1 t359 (decide ((a1.size : Int) > 1000)) a2_0 a2_1 l2_2 a2_3))) = some r := h
 clear h
 replace H := Option.bind_eq_some_iff.mp H
 obtain ⟨t359, A40, H⟩ := H
 replace H : (if (a0.size : Int) > 1000 then (quoinlaw09_SectKinds.j0 k a0 a1 t359 true a2_0 a2_1 l2_2 a2_3) else (quoinlaw09_SectKinds.j0 k a0 a1 t359 (decide ((a1.size : Int) > 1000)) a2_0 a2_1 l2_2 a2_3)) = some r := H
 have A4 := Aside0.mk A40
 clear A40
 have HC5 := Aside0.mk H
 clear H
 go_enter Try.func7, Try.ntmps7
 go_upto_region 2 with (first | ((with_reducible refine gate_dst (N := 5) rfl ?_); (try (refine gate_guard (by rfl) ?_; dsimp only)); refine box_event ?hg (N := 5) ?hd (cs := #[.string a2_0, .int .i64 a2_1, .slice A2_2 l2_2.length c2_2, .int .i64 a2_3]) (t := 36) ?hr ?_; (case hd => rfl); (case hg => rfl); (case hr => first | (go_simp; done) | (go_simp; rfl)); intro gb358 hg w6 hbox hb; have n0_ := Aside0.mk (below_step (by repeat (first | (with_reducible first | exact HB.out | apply below_alloc | apply pw_below_drewN | apply below_drew1) | exact HB.out)) hb); have n1_ := Aside0.mk (hbox); have n2_ := Aside0.mk ((by rw [hg]; exact (below_size (by repeat (first | (with_reducible first | exact HB.out | apply below_alloc | apply pw_below_drewN | apply below_drew1) | exact HB.out))) : w.heap.size ≤ gb358)); have n3_ := Aside0.mk ((by rw [hg]; exact (below_size (by repeat (first | (with_reducible first | exact HB.out | apply below_alloc | apply pw_below_drewN | apply below_drew1) | exact HB.out))) : w.heap.size ≤ gb358)); clear HB; have HB := n0_; have BK358 := n1_; have GW358 := n2_; have GE358 := n3_; clear n0_ n1_ n2_ n3_; clear hb hbox hg) | ((with_reducible refine gate_callee (f := 31) rfl ?_); refine goesL_ (some 15) rfl rfl Try.func31 (by kernel_rfl) rfl #[] rfl (by (try simp only [List.map_toArray, List.map_cons, List.map_nil]); first | done | rfl | (simp only [List.length_drop, List.length_take]; rfl)) ?_; (with_reducible refine (quoinlaw09_alive.calls k  t359 _ A4.out).mono ?_); rintro e w7 ⟨rfl, hb⟩; refine ⟨_, rfl, ?_⟩; have n0_ := Aside0.mk (blk_below (g := gb358) (o := .cells #[.string a2_0, .int .i64 a2_1, .slice A2_2 l2_2.length c2_2, .int .i64 a2_3] 36 (0, 0)) (by (with_reducible repeat (first | refine blk_drewN ?_ _ | refine blk_drew ?_ | refine blk_alloc ?_ _)); exact BK358.out) hb); have n1_ := Aside0.mk (below_step (by repeat (first | (with_reducible first | exact HB.out | apply below_alloc | apply pw_below_drewN | apply below_drew1 | refine below_set ?_ GE358.out) | exact HB.out)) hb); clear BK358; clear HB; have BK358 := n0_; have HB := n1_; clear n0_ n1_; (try clear hb); (try clear hb2); (try clear hk); (try clear hi)))
 (try simp only [Act.put, List.setIfInBounds_toArray, List.set_cons_zero, List.set_cons_succ])
 go_cut [23] (fun v23 wc => ∃ (kq : Nat) (x23_4 : Bool), v23 = .bool x23_4 ∧ Aside0 (quoinlaw09_SectKinds.j0 kq a0 a1 t359 x23_4 a2_0 a2_1 l2_2 a2_3 = some r) ∧ Aside0 (kq ≤ k) ∧ Aside0 (wc.heap[gb358]? = some (.cells #[.string a2_0, .int .i64 a2_1, (.slice A2_2 l2_2.length c2_2), .int .i64 a2_3] 36 (0, 0))) ∧ Aside0 (Below w.heap.size w wc))
 case first =>
  have H := HC5.out
  clear HC5
  by_cases c8 : (a0.size : Int) > 1000
  ·
   rw [if_pos c8] at H
   have c8b0 : decide (1000 < (a0.size : Int)) = true := decide_eq_true c8
   have c8b1 : decide (1000 < a0.size) = true := decide_eq_true (by omega)
   clear c8
   (first | rw [c8b0] | (simp only [i64_w, i32_w]; rw [c8b0]) | skip)
   have H' := Aside0.mk H
   clear H
   go_wp2
   go_meet
   case rel => exact ⟨_, (true), (by first | rfl | (simp; done) | (simp [*]; done)), H', ⟨by first | omega | exact Nat.le_refl _⟩, ⟨by (with_reducible repeat (first | refine blk_drewN ?_ _ | refine blk_drew ?_ | refine blk_alloc ?_ _)); exact BK358.out⟩, ⟨by repeat (first | (with_reducible first | exact HB.out | apply below_alloc | apply pw_below_drewN | apply below_drew1 | refine below_set ?_ GE358.out) | exact HB.out)⟩⟩
  ·
   rw [if_neg c8] at H
   have c8b0 : decide (1000 < (a0.size : Int)) = false := decide_eq_false c8
   have c8b1 : decide (1000 < a0.size) = false := decide_eq_false (by omega)
   clear c8
   (first | rw [c8b0] | (simp only [i64_w, i32_w]; rw [c8b0]) | skip)
   have H' := Aside0.mk H
   clear H
   go_wp2
   go_meet
   case rel => exact ⟨_, (decide ((a1.size : Int) > 1000)), (by first | rfl | (simp; done) | (simp [*]; done)), H', ⟨by first | omega | exact Nat.le_refl _⟩, ⟨by (with_reducible repeat (first | refine blk_drewN ?_ _ | refine blk_drew ?_ | refine blk_alloc ?_ _)); exact BK358.out⟩, ⟨by repeat (first | (with_reducible first | exact HB.out | apply below_alloc | apply pw_below_drewN | apply below_drew1 | refine below_set ?_ GE358.out) | exact HB.out)⟩⟩
 case rest =>
  clear HC5
  try clear c2
  try clear p2
  try clear c3
  try clear c7
  try clear c8
  try clear c8b0
  try clear c8b1
  obtain ⟨kq, x23_4, rfl, HA, HJ4, BK358, HB⟩ := hcut
  cases kq with
  | zero => exact absurd HA.out (by simp [quoinlaw09_SectKinds.j0])
  | succ kj4 =>
   have H := HA.out
   clear HA
   simp only [quoinlaw09_SectKinds.j0] at H
   by_cases c9 : x23_4 = true
   ·
    subst c9
    have H1 : (some t359) = some r := by rw [if_pos rfl] at H; exact H
    clear H
    have H := H1
    clear H1
    obtain rfl := Option.some.inj H
    go_wp2
    go_ret
    exact ⟨by first | rfl | (simp [errW_none, errW_some] <;> rfl) | (simp [*, errW_none, errW_some] <;> rfl), by repeat (first | (with_reducible first | exact HB.out | apply below_alloc | apply pw_below_drewN | apply below_drew1 | refine below_set ?_ GE358.out) | exact HB.out)⟩
   ·
    replace c9 := Bool.eq_false_iff.mpr c9
    subst c9
    have H1 : ((sect_Kind.f a0).bind fun bt360 => (if a0.size + 1 ≤ 9223372036854775807 then (if (a0 ++ (⟨#[46]⟩ : ByteArray)).size + a1.size ≤ 9223372036854775807 then ((sect_Kind.f ((a0 ++ (⟨#[46]⟩ : ByteArray)) ++ a1)).bind fun bt362 => (if bt360.2 = 0 then (if bt362.2 = 0 then (if bt360.1 = bt362.1 then (quoinlaw09_SectKinds.j1 kj4 t359 false a2_0 a2_1 l2_2 a2_3) else (none)) else (if (((a0 ++ (⟨#[46]⟩ : ByteArray)) ++ a1).size : Int) ≤ 32 then ((quoinlaw09_graphic.f kj4 a1).bind fun t364 => (quoinlaw09_SectKinds.j1 kj4 t359 t364 a2_0 a2_1 l2_2 a2_3)) else (quoinlaw09_SectKinds.j1 kj4 t359 false a2_0 a2_1 l2_2 a2_3))) else (quoinlaw09_SectKinds.j1 kj4 t359 false a2_0 a2_1 l2_2 a2_3))) else (none)) else (none))) = some r := by rw [if_neg (show ¬ (false = true) by decide)] at H; exact H
    clear H
    have H := H1
    clear H1
    replace H := Option.bind_eq_some_iff.mp H
    obtain ⟨⟨t360, t361⟩, A100, H⟩ := H
    replace H : (if a0.size + 1 ≤ 9223372036854775807 then (if (a0 ++ (⟨#[46]⟩ : ByteArray)).size + a1.size ≤ 9223372036854775807 then ((sect_Kind.f ((a0 ++ (⟨#[46]⟩ : ByteArray)) ++ a1)).bind fun bt362 => (if t361 = 0 then (if bt362.2 = 0 then (if t360 = bt362.1 then (quoinlaw09_SectKinds.j1 kj4 t359 false a2_0 a2_1 l2_2 a2_3) else (none)) else (if (((a0 ++ (⟨#[46]⟩ : ByteArray)) ++ a1).size : Int) ≤ 32 then ((quoinlaw09_graphic.f kj4 a1).bind fun t364 => (quoinlaw09_SectKinds.j1 kj4 t359 t364 a2_0 a2_1 l2_2 a2_3)) else (quoinlaw09_SectKinds.j1 kj4 t359 false a2_0 a2_1 l2_2 a2_3))) else (quoinlaw09_SectKinds.j1 kj4 t359 false a2_0 a2_1 l2_2 a2_3))) else (none)) else (none)) = some r := H
    have A10 := Aside0.mk A100
    clear A100
    by_cases c11 : a0.size + 1 ≤ 9223372036854775807
    ·
     rw [if_pos c11] at H
     have c11b0 := eq_true c11
     have c11b1 : decide (a0.size + 1 ≤ 9223372036854775807) = true := decide_eq_true c11
     try have c11b2 : (9223372036854775807 < a0.size + 1) = False := eq_false (Nat.not_lt.2 c11)
     by_cases c12 : (a0 ++ (⟨#[46]⟩ : ByteArray)).size + a1.size ≤ 9223372036854775807
     ·
      rw [if_pos c12] at H
      have c12b0 := eq_true c12
      have c12b1 : decide ((a0 ++ (⟨#[46]⟩ : ByteArray)).size + a1.size ≤ 9223372036854775807) = true := decide_eq_true c12
      try have c12b2 : (9223372036854775807 < (a0 ++ (⟨#[46]⟩ : ByteArray)).size + a1.size) = False := eq_false (Nat.not_lt.2 c12)
      replace H := Option.bind_eq_some_iff.mp H
      obtain ⟨⟨t362, t363⟩, A130, H⟩ := H
      replace H : (if t361 = 0 then (if t363 = 0 then (if t360 = t362 then (quoinlaw09_SectKinds.j1 kj4 t359 false a2_0 a2_1 l2_2 a2_3) else (none)) else (if (((a0 ++ (⟨#[46]⟩ : ByteArray)) ++ a1).size : Int) ≤ 32 then ((quoinlaw09_graphic.f kj4 a1).bind fun t364 => (quoinlaw09_SectKinds.j1 kj4 t359 t364 a2_0 a2_1 l2_2 a2_3)) else (quoinlaw09_SectKinds.j1 kj4 t359 false a2_0 a2_1 l2_2 a2_3))) else (quoinlaw09_SectKinds.j1 kj4 t359 false a2_0 a2_1 l2_2 a2_3)) = some r := H
      have A13 := Aside0.mk A130
      clear A130
      have HC14 := Aside0.mk H
      clear H
      go_upto_region 7 with (first | ((with_reducible refine gate_callee (f := 35) rfl ?_); refine goesL_ (some 27) rfl rfl Try.func35 (by kernel_rfl) rfl #[.string a0] rfl (by (try simp only [List.map_toArray, List.map_cons, List.map_nil]); first | done | rfl | (simp only [List.length_drop, List.length_take]; rfl)) ?_; (with_reducible refine (sect_Kind.calls a0 t360 t361 _ A10.out).mono ?_); rintro e w15 ⟨rfl, hb⟩; refine ⟨_, rfl, ?_⟩; have n0_ := Aside0.mk (blk_below (g := gb358) (o := .cells #[.string a2_0, .int .i64 a2_1, .slice A2_2 l2_2.length c2_2, .int .i64 a2_3] 36 (0, 0)) (by (with_reducible repeat (first | refine blk_drewN ?_ _ | refine blk_drew ?_ | refine blk_alloc ?_ _)); exact BK358.out) hb); have n1_ := Aside0.mk (below_step (by repeat (first | (with_reducible first | exact HB.out | apply below_alloc | apply pw_below_drewN | apply below_drew1 | refine below_set ?_ GE358.out) | exact HB.out)) hb); clear BK358; clear HB; have BK358 := n0_; have HB := n1_; clear n0_ n1_; (try clear hb); (try clear hb2); (try clear hk); (try clear hi)) | ((with_reducible refine gate_callee (f := 35) rfl ?_); refine goesL_ (some 36) rfl rfl Try.func35 (by kernel_rfl) rfl #[.string ((a0 ++ (⟨#[46]⟩ : ByteArray)) ++ a1)] rfl (by (try simp only [List.map_toArray, List.map_cons, List.map_nil]); first | done | rfl | (simp only [List.length_drop, List.length_take]; rfl)) ?_; (with_reducible refine (sect_Kind.calls ((a0 ++ (⟨#[46]⟩ : ByteArray)) ++ a1) t362 t363 _ A13.out).mono ?_); rintro e w16 ⟨rfl, hb⟩; refine ⟨_, rfl, ?_⟩; have n0_ := Aside0.mk (blk_below (g := gb358) (o := .cells #[.string a2_0, .int .i64 a2_1, .slice A2_2 l2_2.length c2_2, .int .i64 a2_3] 36 (0, 0)) (by (with_reducible repeat (first | refine blk_drewN ?_ _ | refine blk_drew ?_ | refine blk_alloc ?_ _)); exact BK358.out) hb); have n1_ := Aside0.mk (below_step (by repeat (first | (with_reducible first | exact HB.out | apply below_alloc | apply pw_below_drewN | apply below_drew1 | refine below_set ?_ GE358.out) | exact HB.out)) hb); clear BK358; clear HB; have BK358 := n0_; have HB := n1_; clear n0_ n1_; (try clear hb); (try clear hb2); (try clear hk); (try clear hi)))
      (try simp only [Act.put, List.setIfInBounds_toArray, List.set_cons_zero, List.set_cons_succ])
      go_cut [66] (fun v66 wc => ∃ (kq : Nat) (x66_13 : Bool), v66 = .bool x66_13 ∧ Aside0 (quoinlaw09_SectKinds.j1 kq t359 x66_13 a2_0 a2_1 l2_2 a2_3 = some r) ∧ Aside0 (kq ≤ kj4) ∧ Aside0 (wc.heap[gb358]? = some (.cells #[.string a2_0, .int .i64 a2_1, (.slice A2_2 l2_2.length c2_2), .int .i64 a2_3] 36 (0, 0))) ∧ Aside0 (Below w.heap.size w wc))
      case first =>
       have H := HC14.out
       clear HC14
       by_cases c17 : t361 = 0
       ·
        rw [if_pos c17] at H
        have c17b0 : (t361 == 0) = true := beq_iff_eq.mpr c17
        have c17b1 : (t361 != 0) = false := bne_eq_false_iff_eq.mpr c17
        clear c17
        (first | rw [c17b0] | (simp only [i64_w, i32_w]; rw [c17b0]) | skip)
        by_cases c18 : t363 = 0
        ·
         rw [if_pos c18] at H
         have c18b0 : (t363 == 0) = true := beq_iff_eq.mpr c18
         have c18b1 : (t363 != 0) = false := bne_eq_false_iff_eq.mpr c18
         clear c18
         by_cases c19 : t360 = t362
         ·
          rw [if_pos c19] at H
          have c19b0 : (t360 == t362) = true := beq_iff_eq.mpr c19
          have c19b1 : (t360 != t362) = false := bne_eq_false_iff_eq.mpr c19
          clear c19
          have H' := Aside0.mk H
          clear H
          go_wp2
          go_meet
          case rel => exact ⟨_, (false), (by first | rfl | (simp; done) | (simp [*]; done)), H', ⟨by have := HJ4.out; first | omega | exact Nat.le_refl _⟩, ⟨by (with_reducible repeat (first | refine blk_drewN ?_ _ | refine blk_drew ?_ | refine blk_alloc ?_ _)); exact BK358.out⟩, ⟨by repeat (first | (with_reducible first | exact HB.out | apply below_alloc | apply pw_below_drewN | apply below_drew1 | refine below_set ?_ GE358.out) | exact HB.out)⟩⟩
         ·
          rw [if_neg c19] at H
          exact absurd H (by simp)
        ·
         rw [if_neg c18] at H
         have c18b0 : (t363 == 0) = false := beq_eq_false_iff_ne.mpr c18
         have c18b1 : (t363 != 0) = true := bne_iff_ne.mpr c18
         by_cases c20 : (((a0 ++ (⟨#[46]⟩ : ByteArray)) ++ a1).size : Int) ≤ 32
         ·
          rw [if_pos c20] at H
          have c20b0 : decide ((((a0 ++ (⟨#[46]⟩ : ByteArray)) ++ a1).size : Int) ≤ 32) = true := decide_eq_true c20
          have c20b1 : decide (((a0 ++ (⟨#[46]⟩ : ByteArray)) ++ a1).size ≤ 32) = true := decide_eq_true (by omega)
          (try (have c20s_ := c20b0; simp [-decide_eq_true_eq, -decide_eq_false_iff_not, show (⟨#[46]⟩ : ByteArray).size = 1 from rfl] at c20s_))
          clear c20
          replace H := Option.bind_eq_some_iff.mp H
          obtain ⟨t364, A210, H⟩ := H
          replace H : (quoinlaw09_SectKinds.j1 kj4 t359 t364 a2_0 a2_1 l2_2 a2_3) = some r := H
          have A21 := Aside0.mk A210
          clear A210
          have H' := Aside0.mk H
          clear H
          go_wp2_with (first | (go_at_call 40; (with_reducible refine (quoinlaw09_graphic.calls kj4 a1 t364 _ A21.out).mono ?_); rintro e w' ⟨rfl, ⟨nd, rfl⟩⟩))
          go_meet
          case rel => exact ⟨_, (t364), (by first | rfl | (simp; done) | (simp [*]; done)), H', ⟨by have := HJ4.out; first | omega | exact Nat.le_refl _⟩, ⟨by (with_reducible repeat (first | refine blk_drewN ?_ _ | refine blk_drew ?_ | refine blk_alloc ?_ _)); exact BK358.out⟩, ⟨by repeat (first | (with_reducible first | exact HB.out | apply below_alloc | apply pw_below_drewN | apply below_drew1 | refine below_set ?_ GE358.out) | exact HB.out)⟩⟩
         ·
          rw [if_neg c20] at H
          have c20b0 : decide ((((a0 ++ (⟨#[46]⟩ : ByteArray)) ++ a1).size : Int) ≤ 32) = false := decide_eq_false c20
          have c20b1 : decide (((a0 ++ (⟨#[46]⟩ : ByteArray)) ++ a1).size ≤ 32) = false := decide_eq_false (by omega)
          (try (have c20s_ := c20b0; simp [-decide_eq_true_eq, -decide_eq_false_iff_not, show (⟨#[46]⟩ : ByteArray).size = 1 from rfl] at c20s_))
          clear c20
          have H' := Aside0.mk H
          clear H
          go_wp2
          go_meet
          case rel => exact ⟨_, (false), (by first | rfl | (simp; done) | (simp [*]; done)), H', ⟨by have := HJ4.out; first | omega | exact Nat.le_refl _⟩, ⟨by (with_reducible repeat (first | refine blk_drewN ?_ _ | refine blk_drew ?_ | refine blk_alloc ?_ _)); exact BK358.out⟩, ⟨by repeat (first | (with_reducible first | exact HB.out | apply below_alloc | apply pw_below_drewN | apply below_drew1 | refine below_set ?_ GE358.out) | exact HB.out)⟩⟩
       ·
        rw [if_neg c17] at H
        have c17b0 : (t361 == 0) = false := beq_eq_false_iff_ne.mpr c17
        have c17b1 : (t361 != 0) = true := bne_iff_ne.mpr c17
        (first | rw [c17b0] | (simp only [i64_w, i32_w]; rw [c17b0]) | skip)
        have H' := Aside0.mk H
        clear H
        go_wp2
        go_meet
        case rel => exact ⟨_, (false), (by first | rfl | (simp; done) | (simp [*]; done)), H', ⟨by have := HJ4.out; first | omega | exact Nat.le_refl _⟩, ⟨by (with_reducible repeat (first | refine blk_drewN ?_ _ | refine blk_drew ?_ | refine blk_alloc ?_ _)); exact BK358.out⟩, ⟨by repeat (first | (with_reducible first | exact HB.out | apply below_alloc | apply pw_below_drewN | apply below_drew1 | refine below_set ?_ GE358.out) | exact HB.out)⟩⟩
      case rest =>
       clear HC14
       try clear c1
       try clear c2
       try clear p2
       try clear c3
       try clear c7
       try clear c8
       try clear c8b0
       try clear c8b1
       try clear c9
       try clear c11
       try clear c11b0
       try clear c11b1
       try clear c11b2
       try clear c12
       try clear c12b0
       try clear c12b1
       try clear c12b2
       try clear c17
       try clear c17b0
       try clear c17b1
       try clear c18
       try clear c18b0
       try clear c18b1
       try clear c19
       try clear c19b0
       try clear c19b1
       try clear c20
       try clear c20b0
       try clear c20b1
       try clear p2
       obtain ⟨kq, x66_13, rfl, HA, HJ13, BK358, HB⟩ := hcut
       cases kq with
       | zero => exact absurd HA.out (by simp [quoinlaw09_SectKinds.j1])
       | succ kj13 =>
        have H := HA.out
        clear HA
        simp only [quoinlaw09_SectKinds.j1] at H
        by_cases c22 : x66_13 = true
        ·
         subst c22
         have H1 : (none) = some r := by rw [if_pos rfl] at H; exact H
         clear H
         have H := H1
         clear H1
         exact absurd H (by simp)
        ·
         replace c22 := Bool.eq_false_iff.mpr c22
         subst c22
         have H1 : ((sect_Check.f kj13 a2_0 a2_1 l2_2 a2_3).bind fun t365 => (if t365 = 0 then ((sect_Kind.f a2_0).bind fun bt366 => (if t359 = true then (if bt366.2 = 0 then (if (wrap64 ((l2_2.length : Int) + a2_3)) ≤ 4096 then (if bt366.1 = 4 then (if (l2_2.length : Int) = 0 then (if a2_1 > 0 then (if a2_1 = 0 then (none) else (some (((64 : Int) % a2_1) == 0))) else (none)) else (if a2_3 = 0 then (if a2_1 > 0 then (if a2_1 = 0 then (none) else (some (((64 : Int) % a2_1) == 0))) else (none)) else (none))) else (if (l2_2.length : Int) = 0 then (if a2_1 > 0 then (if a2_1 = 0 then (none) else (some (((64 : Int) % a2_1) == 0))) else (none)) else (if a2_3 = 0 then (if a2_1 > 0 then (if a2_1 = 0 then (none) else (some (((64 : Int) % a2_1) == 0))) else (none)) else (none)))) else (none)) else (none)) else (none))) else (some t359))) = some r := by rw [if_neg (show ¬ (false = true) by decide)] at H; exact H
         clear H
         have H := H1
         clear H1
         replace H := Option.bind_eq_some_iff.mp H
         obtain ⟨t365, A230, H⟩ := H
         replace H : (if t365 = 0 then ((sect_Kind.f a2_0).bind fun bt366 => (if t359 = true then (if bt366.2 = 0 then (if (wrap64 ((l2_2.length : Int) + a2_3)) ≤ 4096 then (if bt366.1 = 4 then (if (l2_2.length : Int) = 0 then (if a2_1 > 0 then (if a2_1 = 0 then (none) else (some (((64 : Int) % a2_1) == 0))) else (none)) else (if a2_3 = 0 then (if a2_1 > 0 then (if a2_1 = 0 then (none) else (some (((64 : Int) % a2_1) == 0))) else (none)) else (none))) else (if (l2_2.length : Int) = 0 then (if a2_1 > 0 then (if a2_1 = 0 then (none) else (some (((64 : Int) % a2_1) == 0))) else (none)) else (if a2_3 = 0 then (if a2_1 > 0 then (if a2_1 = 0 then (none) else (some (((64 : Int) % a2_1) == 0))) else (none)) else (none)))) else (none)) else (none)) else (none))) else (some t359)) = some r := H
         have A23 := Aside0.mk A230
         clear A230
         by_cases c24 : t365 = 0
         ·
          rw [if_pos c24] at H
          have c24b0 : (t365 == 0) = true := beq_iff_eq.mpr c24
          have c24b1 : (t365 != 0) = false := bne_eq_false_iff_eq.mpr c24
          clear c24
          replace H := Option.bind_eq_some_iff.mp H
          obtain ⟨⟨t366, t367⟩, A250, H⟩ := H
          replace H : (if t359 = true then (if t367 = 0 then (if (wrap64 ((l2_2.length : Int) + a2_3)) ≤ 4096 then (if t366 = 4 then (if (l2_2.length : Int) = 0 then (if a2_1 > 0 then (if a2_1 = 0 then (none) else (some (((64 : Int) % a2_1) == 0))) else (none)) else (if a2_3 = 0 then (if a2_1 > 0 then (if a2_1 = 0 then (none) else (some (((64 : Int) % a2_1) == 0))) else (none)) else (none))) else (if (l2_2.length : Int) = 0 then (if a2_1 > 0 then (if a2_1 = 0 then (none) else (some (((64 : Int) % a2_1) == 0))) else (none)) else (if a2_3 = 0 then (if a2_1 > 0 then (if a2_1 = 0 then (none) else (some (((64 : Int) % a2_1) == 0))) else (none)) else (none)))) else (none)) else (none)) else (none)) = some r := H
          have A25 := Aside0.mk A250
          clear A250
          by_cases c26 : t359 = true
          ·
           subst c26
           have H1 : (if t367 = 0 then (if (wrap64 ((l2_2.length : Int) + a2_3)) ≤ 4096 then (if t366 = 4 then (if (l2_2.length : Int) = 0 then (if a2_1 > 0 then (if a2_1 = 0 then (none) else (some (((64 : Int) % a2_1) == 0))) else (none)) else (if a2_3 = 0 then (if a2_1 > 0 then (if a2_1 = 0 then (none) else (some (((64 : Int) % a2_1) == 0))) else (none)) else (none))) else (if (l2_2.length : Int) = 0 then (if a2_1 > 0 then (if a2_1 = 0 then (none) else (some (((64 : Int) % a2_1) == 0))) else (none)) else (if a2_3 = 0 then (if a2_1 > 0 then (if a2_1 = 0 then (none) else (some (((64 : Int) % a2_1) == 0))) else (none)) else (none)))) else (none)) else (none)) = some r := by rw [if_pos rfl] at H; exact H
           clear H
           have H := H1
           clear H1
           by_cases c27 : t367 = 0
           ·
            rw [if_pos c27] at H
            have c27b0 : (t367 == 0) = true := beq_iff_eq.mpr c27
            have c27b1 : (t367 != 0) = false := bne_eq_false_iff_eq.mpr c27
            clear c27
            by_cases c28 : (wrap64 ((l2_2.length : Int) + a2_3)) ≤ 4096
            ·
             rw [if_pos c28] at H
             have c28b0 : decide ((wrap64 ((l2_2.length : Int) + a2_3)) ≤ 4096) = true := decide_eq_true c28
             clear c28
             by_cases c29 : t366 = 4
             ·
              rw [if_pos c29] at H
              have c29b0 : (t366 == 4) = true := beq_iff_eq.mpr c29
              have c29b1 : (t366 != 4) = false := bne_eq_false_iff_eq.mpr c29
              clear c29
              by_cases c30 : (l2_2.length : Int) = 0
              ·
               rw [if_pos c30] at H
               have c30b0 : ((l2_2.length : Int) == 0) = true := beq_iff_eq.mpr c30
               have c30b1 : ((l2_2.length : Int) != 0) = false := bne_eq_false_iff_eq.mpr c30
               clear c30
               by_cases c31 : a2_1 > 0
               ·
                rw [if_pos c31] at H
                have c31b0 : decide (0 < a2_1) = true := decide_eq_true c31
                clear c31
                by_cases c32 : a2_1 = 0
                ·
                 rw [if_pos c32] at H
                 exact absurd H (by simp)
                ·
                 rw [if_neg c32] at H
                 have c32b0 : (a2_1 == 0) = false := beq_eq_false_iff_ne.mpr c32
                 have c32b1 : (a2_1 != 0) = true := bne_iff_ne.mpr c32
                 obtain rfl := Option.some.inj H
                 have hcz33_0 : wc.cell? ⟨gb358, 0, none⟩ = some (.string a2_0) := (blk_cell BK358.out 0).trans rfl
                 have hcz33_1 : wc.cell? ⟨gb358, 1, none⟩ = some (.int .i64 a2_1) := (blk_cell BK358.out 1).trans rfl
                 have hcz33_2 : wc.cell? ⟨gb358, 2, none⟩ = some (.slice A2_2 l2_2.length c2_2) := (blk_cell BK358.out 2).trans rfl
                 have hcz33_3 : wc.cell? ⟨gb358, 3, none⟩ = some (.int .i64 a2_3) := (blk_cell BK358.out 3).trans rfl
                 have hfz33_0 := blk_frozen BK358.out 0
                 have hfz33_1 := blk_frozen BK358.out 1
                 have hfz33_2 := blk_frozen BK358.out 2
                 have hfz33_3 := blk_frozen BK358.out 3
                 go_wp2_with (first | ((with_reducible refine gate_callee (f := 37) rfl ?_); refine goesL_ (some 68) rfl rfl Try.func37 (by kernel_rfl) rfl #[.agg #[.string a2_0, .int .i64 a2_1, .slice A2_2 l2_2.length c2_2, .int .i64 a2_3]] rfl (by (try simp only [List.map_toArray, List.map_cons, List.map_nil]); first | done | rfl | (simp only [List.length_drop, List.length_take]; rfl)) ?_; (with_reducible refine (sect_Check.calls kj13 a2_0 a2_1 _ _ l2_2 a2_3 t365 _ ?side1 ?side2 A23.out).mono ?_); (case side1 => repeat (first | exact (Kd.C_below HR2_2.out HB.out) | (with_reducible refine Kd.C_alloc ?_ _) | (with_reducible refine Kd.C_drewN ?_ _) | (with_reducible refine Kd.C_drew ?_))); (case side2 => exact HC2_2.out); rintro e w34 ⟨rfl, hb⟩; refine ⟨_, rfl, ?_⟩; have n0_ := Aside0.mk (blk_below (g := gb358) (o := .cells #[.string a2_0, .int .i64 a2_1, .slice A2_2 l2_2.length c2_2, .int .i64 a2_3] 36 (0, 0)) (by (with_reducible repeat (first | refine blk_drewN ?_ _ | refine blk_drew ?_ | refine blk_alloc ?_ _)); exact BK358.out) hb); have n1_ := Aside0.mk (below_step (by repeat (first | (with_reducible first | exact HB.out | apply below_alloc | apply pw_below_drewN | apply below_drew1 | refine below_set ?_ GE358.out) | exact HB.out)) hb); clear BK358; clear HB; have BK358 := n0_; have HB := n1_; clear n0_ n1_; (try clear hb); (try clear hb2); (try clear hk); (try clear hi); have hcz35_0 : w34.cell? ⟨gb358, 0, none⟩ = some (.string a2_0) := (blk_cell BK358.out 0).trans rfl; have hcz35_1 : w34.cell? ⟨gb358, 1, none⟩ = some (.int .i64 a2_1) := (blk_cell BK358.out 1).trans rfl; have hcz35_2 : w34.cell? ⟨gb358, 2, none⟩ = some (.slice A2_2 l2_2.length c2_2) := (blk_cell BK358.out 2).trans rfl; have hcz35_3 : w34.cell? ⟨gb358, 3, none⟩ = some (.int .i64 a2_3) := (blk_cell BK358.out 3).trans rfl; have hfz35_0 := blk_frozen BK358.out 0; have hfz35_1 := blk_frozen BK358.out 1; have hfz35_2 := blk_frozen BK358.out 2; have hfz35_3 := blk_frozen BK358.out 3) | ((with_reducible refine gate_callee (f := 35) rfl ?_); refine goesL_ (some 74) rfl rfl Try.func35 (by kernel_rfl) rfl #[.string a2_0] rfl (by (try simp only [List.map_toArray, List.map_cons, List.map_nil]); first | done | rfl | (simp only [List.length_drop, List.length_take]; rfl)) ?_; (with_reducible refine (sect_Kind.calls a2_0 t366 t367 _ A25.out).mono ?_); rintro e w36 ⟨rfl, hb⟩; refine ⟨_, rfl, ?_⟩; have n0_ := Aside0.mk (blk_below (g := gb358) (o := .cells #[.string a2_0, .int .i64 a2_1, .slice A2_2 l2_2.length c2_2, .int .i64 a2_3] 36 (0, 0)) (by (with_reducible repeat (first | refine blk_drewN ?_ _ | refine blk_drew ?_ | refine blk_alloc ?_ _)); exact BK358.out) hb); have n1_ := Aside0.mk (below_step (by repeat (first | (with_reducible first | exact HB.out | apply below_alloc | apply pw_below_drewN | apply below_drew1 | refine below_set ?_ GE358.out) | exact HB.out)) hb); clear BK358; clear HB; have BK358 := n0_; have HB := n1_; clear n0_ n1_; (try clear hb); (try clear hb2); (try clear hk); (try clear hi); have hcz37_0 : w36.cell? ⟨gb358, 0, none⟩ = some (.string a2_0) := (blk_cell BK358.out 0).trans rfl; have hcz37_1 : w36.cell? ⟨gb358, 1, none⟩ = some (.int .i64 a2_1) := (blk_cell BK358.out 1).trans rfl; have hcz37_2 : w36.cell? ⟨gb358, 2, none⟩ = some (.slice A2_2 l2_2.length c2_2) := (blk_cell BK358.out 2).trans rfl; have hcz37_3 : w36.cell? ⟨gb358, 3, none⟩ = some (.int .i64 a2_3) := (blk_cell BK358.out 3).trans rfl; have hfz37_0 := blk_frozen BK358.out 0; have hfz37_1 := blk_frozen BK358.out 1; have hfz37_2 := blk_frozen BK358.out 2; have hfz37_3 := blk_frozen BK358.out 3))
                 go_ret
                 exact ⟨by first | rfl | (simp [errW_none, errW_some] <;> rfl) | (simp [*, errW_none, errW_some] <;> rfl), by repeat (first | (with_reducible first | exact HB.out | apply below_alloc | apply pw_below_drewN | apply below_drew1 | refine below_set ?_ GE358.out) | exact HB.out)⟩
               ·
                rw [if_neg c31] at H
                exact absurd H (by simp)
              ·
               rw [if_neg c30] at H
               have c30b0 : ((l2_2.length : Int) == 0) = false := beq_eq_false_iff_ne.mpr c30
               have c30b1 : ((l2_2.length : Int) != 0) = true := bne_iff_ne.mpr c30
               have c30b2 : ¬ (l2_2 = []) := fun h_ => c30 (by rw [h_]; rfl)
               by_cases c38 : a2_3 = 0
               ·
                rw [if_pos c38] at H
                have c38b0 : (a2_3 == 0) = true := beq_iff_eq.mpr c38
                have c38b1 : (a2_3 != 0) = false := bne_eq_false_iff_eq.mpr c38
                clear c38
                by_cases c39 : a2_1 > 0
                ·
                 rw [if_pos c39] at H
                 have c39b0 : decide (0 < a2_1) = true := decide_eq_true c39
                 clear c39
                 by_cases c40 : a2_1 = 0
                 ·
                  rw [if_pos c40] at H
                  exact absurd H (by simp)
                 ·
                  rw [if_neg c40] at H
                  have c40b0 : (a2_1 == 0) = false := beq_eq_false_iff_ne.mpr c40
                  have c40b1 : (a2_1 != 0) = true := bne_iff_ne.mpr c40
                  obtain rfl := Option.some.inj H
                  have hcz41_0 : wc.cell? ⟨gb358, 0, none⟩ = some (.string a2_0) := (blk_cell BK358.out 0).trans rfl
                  have hcz41_1 : wc.cell? ⟨gb358, 1, none⟩ = some (.int .i64 a2_1) := (blk_cell BK358.out 1).trans rfl
                  have hcz41_2 : wc.cell? ⟨gb358, 2, none⟩ = some (.slice A2_2 l2_2.length c2_2) := (blk_cell BK358.out 2).trans rfl
                  have hcz41_3 : wc.cell? ⟨gb358, 3, none⟩ = some (.int .i64 a2_3) := (blk_cell BK358.out 3).trans rfl
                  have hfz41_0 := blk_frozen BK358.out 0
                  have hfz41_1 := blk_frozen BK358.out 1
                  have hfz41_2 := blk_frozen BK358.out 2
                  have hfz41_3 := blk_frozen BK358.out 3
                  go_wp2_with (first | ((with_reducible refine gate_callee (f := 37) rfl ?_); refine goesL_ (some 68) rfl rfl Try.func37 (by kernel_rfl) rfl #[.agg #[.string a2_0, .int .i64 a2_1, .slice A2_2 l2_2.length c2_2, .int .i64 a2_3]] rfl (by (try simp only [List.map_toArray, List.map_cons, List.map_nil]); first | done | rfl | (simp only [List.length_drop, List.length_take]; rfl)) ?_; (with_reducible refine (sect_Check.calls kj13 a2_0 a2_1 _ _ l2_2 a2_3 t365 _ ?side1 ?side2 A23.out).mono ?_); (case side1 => repeat (first | exact (Kd.C_below HR2_2.out HB.out) | (with_reducible refine Kd.C_alloc ?_ _) | (with_reducible refine Kd.C_drewN ?_ _) | (with_reducible refine Kd.C_drew ?_))); (case side2 => exact HC2_2.out); rintro e w42 ⟨rfl, hb⟩; refine ⟨_, rfl, ?_⟩; have n0_ := Aside0.mk (blk_below (g := gb358) (o := .cells #[.string a2_0, .int .i64 a2_1, .slice A2_2 l2_2.length c2_2, .int .i64 a2_3] 36 (0, 0)) (by (with_reducible repeat (first | refine blk_drewN ?_ _ | refine blk_drew ?_ | refine blk_alloc ?_ _)); exact BK358.out) hb); have n1_ := Aside0.mk (below_step (by repeat (first | (with_reducible first | exact HB.out | apply below_alloc | apply pw_below_drewN | apply below_drew1 | refine below_set ?_ GE358.out) | exact HB.out)) hb); clear BK358; clear HB; have BK358 := n0_; have HB := n1_; clear n0_ n1_; (try clear hb); (try clear hb2); (try clear hk); (try clear hi); have hcz43_0 : w42.cell? ⟨gb358, 0, none⟩ = some (.string a2_0) := (blk_cell BK358.out 0).trans rfl; have hcz43_1 : w42.cell? ⟨gb358, 1, none⟩ = some (.int .i64 a2_1) := (blk_cell BK358.out 1).trans rfl; have hcz43_2 : w42.cell? ⟨gb358, 2, none⟩ = some (.slice A2_2 l2_2.length c2_2) := (blk_cell BK358.out 2).trans rfl; have hcz43_3 : w42.cell? ⟨gb358, 3, none⟩ = some (.int .i64 a2_3) := (blk_cell BK358.out 3).trans rfl; have hfz43_0 := blk_frozen BK358.out 0; have hfz43_1 := blk_frozen BK358.out 1; have hfz43_2 := blk_frozen BK358.out 2; have hfz43_3 := blk_frozen BK358.out 3) | ((with_reducible refine gate_callee (f := 35) rfl ?_); refine goesL_ (some 74) rfl rfl Try.func35 (by kernel_rfl) rfl #[.string a2_0] rfl (by (try simp only [List.map_toArray, List.map_cons, List.map_nil]); first | done | rfl | (simp only [List.length_drop, List.length_take]; rfl)) ?_; (with_reducible refine (sect_Kind.calls a2_0 t366 t367 _ A25.out).mono ?_); rintro e w44 ⟨rfl, hb⟩; refine ⟨_, rfl, ?_⟩; have n0_ := Aside0.mk (blk_below (g := gb358) (o := .cells #[.string a2_0, .int .i64 a2_1, .slice A2_2 l2_2.length c2_2, .int .i64 a2_3] 36 (0, 0)) (by (with_reducible repeat (first | refine blk_drewN ?_ _ | refine blk_drew ?_ | refine blk_alloc ?_ _)); exact BK358.out) hb); have n1_ := Aside0.mk (below_step (by repeat (first | (with_reducible first | exact HB.out | apply below_alloc | apply pw_below_drewN | apply below_drew1 | refine below_set ?_ GE358.out) | exact HB.out)) hb); clear BK358; clear HB; have BK358 := n0_; have HB := n1_; clear n0_ n1_; (try clear hb); (try clear hb2); (try clear hk); (try clear hi); have hcz45_0 : w44.cell? ⟨gb358, 0, none⟩ = some (.string a2_0) := (blk_cell BK358.out 0).trans rfl; have hcz45_1 : w44.cell? ⟨gb358, 1, none⟩ = some (.int .i64 a2_1) := (blk_cell BK358.out 1).trans rfl; have hcz45_2 : w44.cell? ⟨gb358, 2, none⟩ = some (.slice A2_2 l2_2.length c2_2) := (blk_cell BK358.out 2).trans rfl; have hcz45_3 : w44.cell? ⟨gb358, 3, none⟩ = some (.int .i64 a2_3) := (blk_cell BK358.out 3).trans rfl; have hfz45_0 := blk_frozen BK358.out 0; have hfz45_1 := blk_frozen BK358.out 1; have hfz45_2 := blk_frozen BK358.out 2; have hfz45_3 := blk_frozen BK358.out 3))
                  go_ret
                  exact ⟨by first | rfl | (simp [errW_none, errW_some] <;> rfl) | (simp [*, errW_none, errW_some] <;> rfl), by repeat (first | (with_reducible first | exact HB.out | apply below_alloc | apply pw_below_drewN | apply below_drew1 | refine below_set ?_ GE358.out) | exact HB.out)⟩
                ·
                 rw [if_neg c39] at H
                 exact absurd H (by simp)
               ·
                rw [if_neg c38] at H
                exact absurd H (by simp)
             ·
              rw [if_neg c29] at H
              have c29b0 : (t366 == 4) = false := beq_eq_false_iff_ne.mpr c29
              have c29b1 : (t366 != 4) = true := bne_iff_ne.mpr c29
              by_cases c46 : (l2_2.length : Int) = 0
              ·
               rw [if_pos c46] at H
               have c46b0 : ((l2_2.length : Int) == 0) = true := beq_iff_eq.mpr c46
               have c46b1 : ((l2_2.length : Int) != 0) = false := bne_eq_false_iff_eq.mpr c46
               clear c46
               by_cases c47 : a2_1 > 0
               ·
                rw [if_pos c47] at H
                have c47b0 : decide (0 < a2_1) = true := decide_eq_true c47
                clear c47
                by_cases c48 : a2_1 = 0
                ·
                 rw [if_pos c48] at H
                 exact absurd H (by simp)
                ·
                 rw [if_neg c48] at H
                 have c48b0 : (a2_1 == 0) = false := beq_eq_false_iff_ne.mpr c48
                 have c48b1 : (a2_1 != 0) = true := bne_iff_ne.mpr c48
                 obtain rfl := Option.some.inj H
                 have hcz49_0 : wc.cell? ⟨gb358, 0, none⟩ = some (.string a2_0) := (blk_cell BK358.out 0).trans rfl
                 have hcz49_1 : wc.cell? ⟨gb358, 1, none⟩ = some (.int .i64 a2_1) := (blk_cell BK358.out 1).trans rfl
                 have hcz49_2 : wc.cell? ⟨gb358, 2, none⟩ = some (.slice A2_2 l2_2.length c2_2) := (blk_cell BK358.out 2).trans rfl
                 have hcz49_3 : wc.cell? ⟨gb358, 3, none⟩ = some (.int .i64 a2_3) := (blk_cell BK358.out 3).trans rfl
                 have hfz49_0 := blk_frozen BK358.out 0
                 have hfz49_1 := blk_frozen BK358.out 1
                 have hfz49_2 := blk_frozen BK358.out 2
                 have hfz49_3 := blk_frozen BK358.out 3
                 go_wp2_with (first | ((with_reducible refine gate_callee (f := 37) rfl ?_); refine goesL_ (some 68) rfl rfl Try.func37 (by kernel_rfl) rfl #[.agg #[.string a2_0, .int .i64 a2_1, .slice A2_2 l2_2.length c2_2, .int .i64 a2_3]] rfl (by (try simp only [List.map_toArray, List.map_cons, List.map_nil]); first | done | rfl | (simp only [List.length_drop, List.length_take]; rfl)) ?_; (with_reducible refine (sect_Check.calls kj13 a2_0 a2_1 _ _ l2_2 a2_3 t365 _ ?side1 ?side2 A23.out).mono ?_); (case side1 => repeat (first | exact (Kd.C_below HR2_2.out HB.out) | (with_reducible refine Kd.C_alloc ?_ _) | (with_reducible refine Kd.C_drewN ?_ _) | (with_reducible refine Kd.C_drew ?_))); (case side2 => exact HC2_2.out); rintro e w50 ⟨rfl, hb⟩; refine ⟨_, rfl, ?_⟩; have n0_ := Aside0.mk (blk_below (g := gb358) (o := .cells #[.string a2_0, .int .i64 a2_1, .slice A2_2 l2_2.length c2_2, .int .i64 a2_3] 36 (0, 0)) (by (with_reducible repeat (first | refine blk_drewN ?_ _ | refine blk_drew ?_ | refine blk_alloc ?_ _)); exact BK358.out) hb); have n1_ := Aside0.mk (below_step (by repeat (first | (with_reducible first | exact HB.out | apply below_alloc | apply pw_below_drewN | apply below_drew1 | refine below_set ?_ GE358.out) | exact HB.out)) hb); clear BK358; clear HB; have BK358 := n0_; have HB := n1_; clear n0_ n1_; (try clear hb); (try clear hb2); (try clear hk); (try clear hi); have hcz51_0 : w50.cell? ⟨gb358, 0, none⟩ = some (.string a2_0) := (blk_cell BK358.out 0).trans rfl; have hcz51_1 : w50.cell? ⟨gb358, 1, none⟩ = some (.int .i64 a2_1) := (blk_cell BK358.out 1).trans rfl; have hcz51_2 : w50.cell? ⟨gb358, 2, none⟩ = some (.slice A2_2 l2_2.length c2_2) := (blk_cell BK358.out 2).trans rfl; have hcz51_3 : w50.cell? ⟨gb358, 3, none⟩ = some (.int .i64 a2_3) := (blk_cell BK358.out 3).trans rfl; have hfz51_0 := blk_frozen BK358.out 0; have hfz51_1 := blk_frozen BK358.out 1; have hfz51_2 := blk_frozen BK358.out 2; have hfz51_3 := blk_frozen BK358.out 3) | ((with_reducible refine gate_callee (f := 35) rfl ?_); refine goesL_ (some 74) rfl rfl Try.func35 (by kernel_rfl) rfl #[.string a2_0] rfl (by (try simp only [List.map_toArray, List.map_cons, List.map_nil]); first | done | rfl | (simp only [List.length_drop, List.length_take]; rfl)) ?_; (with_reducible refine (sect_Kind.calls a2_0 t366 t367 _ A25.out).mono ?_); rintro e w52 ⟨rfl, hb⟩; refine ⟨_, rfl, ?_⟩; have n0_ := Aside0.mk (blk_below (g := gb358) (o := .cells #[.string a2_0, .int .i64 a2_1, .slice A2_2 l2_2.length c2_2, .int .i64 a2_3] 36 (0, 0)) (by (with_reducible repeat (first | refine blk_drewN ?_ _ | refine blk_drew ?_ | refine blk_alloc ?_ _)); exact BK358.out) hb); have n1_ := Aside0.mk (below_step (by repeat (first | (with_reducible first | exact HB.out | apply below_alloc | apply pw_below_drewN | apply below_drew1 | refine below_set ?_ GE358.out) | exact HB.out)) hb); clear BK358; clear HB; have BK358 := n0_; have HB := n1_; clear n0_ n1_; (try clear hb); (try clear hb2); (try clear hk); (try clear hi); have hcz53_0 : w52.cell? ⟨gb358, 0, none⟩ = some (.string a2_0) := (blk_cell BK358.out 0).trans rfl; have hcz53_1 : w52.cell? ⟨gb358, 1, none⟩ = some (.int .i64 a2_1) := (blk_cell BK358.out 1).trans rfl; have hcz53_2 : w52.cell? ⟨gb358, 2, none⟩ = some (.slice A2_2 l2_2.length c2_2) := (blk_cell BK358.out 2).trans rfl; have hcz53_3 : w52.cell? ⟨gb358, 3, none⟩ = some (.int .i64 a2_3) := (blk_cell BK358.out 3).trans rfl; have hfz53_0 := blk_frozen BK358.out 0; have hfz53_1 := blk_frozen BK358.out 1; have hfz53_2 := blk_frozen BK358.out 2; have hfz53_3 := blk_frozen BK358.out 3))
                 go_ret
                 exact ⟨by first | rfl | (simp [errW_none, errW_some] <;> rfl) | (simp [*, errW_none, errW_some] <;> rfl), by repeat (first | (with_reducible first | exact HB.out | apply below_alloc | apply pw_below_drewN | apply below_drew1 | refine below_set ?_ GE358.out) | exact HB.out)⟩
               ·
                rw [if_neg c47] at H
                exact absurd H (by simp)
              ·
               rw [if_neg c46] at H
               have c46b0 : ((l2_2.length : Int) == 0) = false := beq_eq_false_iff_ne.mpr c46
               have c46b1 : ((l2_2.length : Int) != 0) = true := bne_iff_ne.mpr c46
               have c46b2 : ¬ (l2_2 = []) := fun h_ => c46 (by rw [h_]; rfl)
               by_cases c54 : a2_3 = 0
               ·
                rw [if_pos c54] at H
                have c54b0 : (a2_3 == 0) = true := beq_iff_eq.mpr c54
                have c54b1 : (a2_3 != 0) = false := bne_eq_false_iff_eq.mpr c54
                clear c54
                by_cases c55 : a2_1 > 0
                ·
                 rw [if_pos c55] at H
                 have c55b0 : decide (0 < a2_1) = true := decide_eq_true c55
                 clear c55
                 by_cases c56 : a2_1 = 0
                 ·
                  rw [if_pos c56] at H
                  exact absurd H (by simp)
                 ·
                  rw [if_neg c56] at H
                  have c56b0 : (a2_1 == 0) = false := beq_eq_false_iff_ne.mpr c56
                  have c56b1 : (a2_1 != 0) = true := bne_iff_ne.mpr c56
                  obtain rfl := Option.some.inj H
                  have hcz57_0 : wc.cell? ⟨gb358, 0, none⟩ = some (.string a2_0) := (blk_cell BK358.out 0).trans rfl
                  have hcz57_1 : wc.cell? ⟨gb358, 1, none⟩ = some (.int .i64 a2_1) := (blk_cell BK358.out 1).trans rfl
                  have hcz57_2 : wc.cell? ⟨gb358, 2, none⟩ = some (.slice A2_2 l2_2.length c2_2) := (blk_cell BK358.out 2).trans rfl
                  have hcz57_3 : wc.cell? ⟨gb358, 3, none⟩ = some (.int .i64 a2_3) := (blk_cell BK358.out 3).trans rfl
                  have hfz57_0 := blk_frozen BK358.out 0
                  have hfz57_1 := blk_frozen BK358.out 1
                  have hfz57_2 := blk_frozen BK358.out 2
                  have hfz57_3 := blk_frozen BK358.out 3
                  go_wp2_with (first | ((with_reducible refine gate_callee (f := 37) rfl ?_); refine goesL_ (some 68) rfl rfl Try.func37 (by kernel_rfl) rfl #[.agg #[.string a2_0, .int .i64 a2_1, .slice A2_2 l2_2.length c2_2, .int .i64 a2_3]] rfl (by (try simp only [List.map_toArray, List.map_cons, List.map_nil]); first | done | rfl | (simp only [List.length_drop, List.length_take]; rfl)) ?_; (with_reducible refine (sect_Check.calls kj13 a2_0 a2_1 _ _ l2_2 a2_3 t365 _ ?side1 ?side2 A23.out).mono ?_); (case side1 => repeat (first | exact (Kd.C_below HR2_2.out HB.out) | (with_reducible refine Kd.C_alloc ?_ _) | (with_reducible refine Kd.C_drewN ?_ _) | (with_reducible refine Kd.C_drew ?_))); (case side2 => exact HC2_2.out); rintro e w58 ⟨rfl, hb⟩; refine ⟨_, rfl, ?_⟩; have n0_ := Aside0.mk (blk_below (g := gb358) (o := .cells #[.string a2_0, .int .i64 a2_1, .slice A2_2 l2_2.length c2_2, .int .i64 a2_3] 36 (0, 0)) (by (with_reducible repeat (first | refine blk_drewN ?_ _ | refine blk_drew ?_ | refine blk_alloc ?_ _)); exact BK358.out) hb); have n1_ := Aside0.mk (below_step (by repeat (first | (with_reducible first | exact HB.out | apply below_alloc | apply pw_below_drewN | apply below_drew1 | refine below_set ?_ GE358.out) | exact HB.out)) hb); clear BK358; clear HB; have BK358 := n0_; have HB := n1_; clear n0_ n1_; (try clear hb); (try clear hb2); (try clear hk); (try clear hi); have hcz59_0 : w58.cell? ⟨gb358, 0, none⟩ = some (.string a2_0) := (blk_cell BK358.out 0).trans rfl; have hcz59_1 : w58.cell? ⟨gb358, 1, none⟩ = some (.int .i64 a2_1) := (blk_cell BK358.out 1).trans rfl; have hcz59_2 : w58.cell? ⟨gb358, 2, none⟩ = some (.slice A2_2 l2_2.length c2_2) := (blk_cell BK358.out 2).trans rfl; have hcz59_3 : w58.cell? ⟨gb358, 3, none⟩ = some (.int .i64 a2_3) := (blk_cell BK358.out 3).trans rfl; have hfz59_0 := blk_frozen BK358.out 0; have hfz59_1 := blk_frozen BK358.out 1; have hfz59_2 := blk_frozen BK358.out 2; have hfz59_3 := blk_frozen BK358.out 3) | ((with_reducible refine gate_callee (f := 35) rfl ?_); refine goesL_ (some 74) rfl rfl Try.func35 (by kernel_rfl) rfl #[.string a2_0] rfl (by (try simp only [List.map_toArray, List.map_cons, List.map_nil]); first | done | rfl | (simp only [List.length_drop, List.length_take]; rfl)) ?_; (with_reducible refine (sect_Kind.calls a2_0 t366 t367 _ A25.out).mono ?_); rintro e w60 ⟨rfl, hb⟩; refine ⟨_, rfl, ?_⟩; have n0_ := Aside0.mk (blk_below (g := gb358) (o := .cells #[.string a2_0, .int .i64 a2_1, .slice A2_2 l2_2.length c2_2, .int .i64 a2_3] 36 (0, 0)) (by (with_reducible repeat (first | refine blk_drewN ?_ _ | refine blk_drew ?_ | refine blk_alloc ?_ _)); exact BK358.out) hb); have n1_ := Aside0.mk (below_step (by repeat (first | (with_reducible first | exact HB.out | apply below_alloc | apply pw_below_drewN | apply below_drew1 | refine below_set ?_ GE358.out) | exact HB.out)) hb); clear BK358; clear HB; have BK358 := n0_; have HB := n1_; clear n0_ n1_; (try clear hb); (try clear hb2); (try clear hk); (try clear hi); have hcz61_0 : w60.cell? ⟨gb358, 0, none⟩ = some (.string a2_0) := (blk_cell BK358.out 0).trans rfl; have hcz61_1 : w60.cell? ⟨gb358, 1, none⟩ = some (.int .i64 a2_1) := (blk_cell BK358.out 1).trans rfl; have hcz61_2 : w60.cell? ⟨gb358, 2, none⟩ = some (.slice A2_2 l2_2.length c2_2) := (blk_cell BK358.out 2).trans rfl; have hcz61_3 : w60.cell? ⟨gb358, 3, none⟩ = some (.int .i64 a2_3) := (blk_cell BK358.out 3).trans rfl; have hfz61_0 := blk_frozen BK358.out 0; have hfz61_1 := blk_frozen BK358.out 1; have hfz61_2 := blk_frozen BK358.out 2; have hfz61_3 := blk_frozen BK358.out 3))
                  go_ret
                  exact ⟨by first | rfl | (simp [errW_none, errW_some] <;> rfl) | (simp [*, errW_none, errW_some] <;> rfl), by repeat (first | (with_reducible first | exact HB.out | apply below_alloc | apply pw_below_drewN | apply below_drew1 | refine below_set ?_ GE358.out) | exact HB.out)⟩
                ·
                 rw [if_neg c55] at H
                 exact absurd H (by simp)
               ·
                rw [if_neg c54] at H
                exact absurd H (by simp)
            ·
             rw [if_neg c28] at H
             exact absurd H (by simp)
           ·
            rw [if_neg c27] at H
            exact absurd H (by simp)
          ·
           replace c26 := Bool.eq_false_iff.mpr c26
           subst c26
           have H1 : (none) = some r := by rw [if_neg (show ¬ (false = true) by decide)] at H; exact H
           clear H
           have H := H1
           clear H1
           exact absurd H (by simp)
         ·
          rw [if_neg c24] at H
          have c24b0 : (t365 == 0) = false := beq_eq_false_iff_ne.mpr c24
          have c24b1 : (t365 != 0) = true := bne_iff_ne.mpr c24
          obtain rfl := Option.some.inj H
          have hcz62_0 : wc.cell? ⟨gb358, 0, none⟩ = some (.string a2_0) := (blk_cell BK358.out 0).trans rfl
          have hcz62_1 : wc.cell? ⟨gb358, 1, none⟩ = some (.int .i64 a2_1) := (blk_cell BK358.out 1).trans rfl
          have hcz62_2 : wc.cell? ⟨gb358, 2, none⟩ = some (.slice A2_2 l2_2.length c2_2) := (blk_cell BK358.out 2).trans rfl
          have hcz62_3 : wc.cell? ⟨gb358, 3, none⟩ = some (.int .i64 a2_3) := (blk_cell BK358.out 3).trans rfl
          have hfz62_0 := blk_frozen BK358.out 0
          have hfz62_1 := blk_frozen BK358.out 1
          have hfz62_2 := blk_frozen BK358.out 2
          have hfz62_3 := blk_frozen BK358.out 3
          go_wp2_with (first | ((with_reducible refine gate_callee (f := 37) rfl ?_); refine goesL_ (some 68) rfl rfl Try.func37 (by kernel_rfl) rfl #[.agg #[.string a2_0, .int .i64 a2_1, .slice A2_2 l2_2.length c2_2, .int .i64 a2_3]] rfl (by (try simp only [List.map_toArray, List.map_cons, List.map_nil]); first | done | rfl | (simp only [List.length_drop, List.length_take]; rfl)) ?_; (with_reducible refine (sect_Check.calls kj13 a2_0 a2_1 _ _ l2_2 a2_3 t365 _ ?side1 ?side2 A23.out).mono ?_); (case side1 => repeat (first | exact (Kd.C_below HR2_2.out HB.out) | (with_reducible refine Kd.C_alloc ?_ _) | (with_reducible refine Kd.C_drewN ?_ _) | (with_reducible refine Kd.C_drew ?_))); (case side2 => exact HC2_2.out); rintro e w63 ⟨rfl, hb⟩; refine ⟨_, rfl, ?_⟩; have n0_ := Aside0.mk (blk_below (g := gb358) (o := .cells #[.string a2_0, .int .i64 a2_1, .slice A2_2 l2_2.length c2_2, .int .i64 a2_3] 36 (0, 0)) (by (with_reducible repeat (first | refine blk_drewN ?_ _ | refine blk_drew ?_ | refine blk_alloc ?_ _)); exact BK358.out) hb); have n1_ := Aside0.mk (below_step (by repeat (first | (with_reducible first | exact HB.out | apply below_alloc | apply pw_below_drewN | apply below_drew1 | refine below_set ?_ GE358.out) | exact HB.out)) hb); clear BK358; clear HB; have BK358 := n0_; have HB := n1_; clear n0_ n1_; (try clear hb); (try clear hb2); (try clear hk); (try clear hi)))
          go_ret
          exact ⟨by first | rfl | (simp [errW_none, errW_some] <;> rfl) | (simp [*, errW_none, errW_some] <;> rfl), by repeat (first | (with_reducible first | exact HB.out | apply below_alloc | apply pw_below_drewN | apply below_drew1 | refine below_set ?_ GE358.out) | exact HB.out)⟩
     ·
      rw [if_neg c12] at H
      exact absurd H (by simp)
    ·
     rw [if_neg c11] at H
     exact absurd H (by simp)

/-- THE ONE PURE STATEMENT of quoinlaw09_SectKinds: yours. -/
def quoinlaw09_SectKinds.Pure : Prop := ∀ (a0 : ByteArray) (a1 : ByteArray) (a2_0 : ByteArray) (a2_1 : Int) (l2_2 : List Int) (a2_3 : Int), a0.size ≤ 140737488351232 → a1.size ≤ 140737488351232 → a2_0.size ≤ maxLen → (Lit.int .i64 a2_1).wf = true → (l2_2.length ≤ maxLen ∧ ∀ x0_ ∈ l2_2, (Lit.int .u8 x0_).wf = true) → (Lit.int .i64 a2_3).wf = true → ∃ k, quoinlaw09_SectKinds.f k a0 a1 a2_0 a2_1 l2_2 a2_3 = some true
theorem quoinlaw09_SectKinds.walk (P : quoinlaw09_SectKinds.Pure) (a0 : ByteArray) (a1 : ByteArray) (a2_0 : ByteArray) (a2_1 : Int) (A2_2 : Option Addr) (c2_2 : Nat) (l2_2 : List Int) (a2_3 : Int) (w : World) (hr2_2 : Kd.C (Kd.int .u8) w A2_2 l2_2.length l2_2) (hc2_2 : l2_2.length ≤ c2_2) (w0_0 : a0.size ≤ 140737488351232) (w1_0 : a1.size ≤ 140737488351232) (w2_0 : a2_0.size ≤ maxLen) (w2_1 : (Lit.int .i64 a2_1).wf = true) (w2_2 : (l2_2.length ≤ maxLen ∧ ∀ x0_ ∈ l2_2, (Lit.int .u8 x0_).wf = true)) (w2_3 : (Lit.int .i64 a2_3).wf = true) :
  Calls Try.prog 7 #[.string a0, .string a1, .agg #[.string a2_0, .int .i64 a2_1, .slice A2_2 l2_2.length c2_2, .int .i64 a2_3]] w fun e w' => e = .returned (.bool true) ∧ Below w.heap.size w w' := by
 obtain ⟨k, h⟩ := P a0 a1 a2_0 a2_1 l2_2 a2_3 w0_0 w1_0 w2_0 w2_1 w2_2 w2_3
 refine (quoinlaw09_SectKinds.calls k a0 a1 a2_0 a2_1 A2_2 c2_2 l2_2 a2_3 true w hr2_2 hc2_2 h).mono ?_
 rintro e w' ⟨rfl, hd⟩
 exact ⟨rfl, hd⟩

end Go.Proofs.Ytomabnfeipobnaa.P
