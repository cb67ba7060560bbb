-- Written by pext.py, a program of this session, over the kit's print: a function's contract
import Derived.Test.YtdhkmaiidbomdafPx0
import Derived.Test.YtdhkmaiidbomdafPx2
import Derived.Test.YtdhkmaiidbomdafPx7
namespace Go.Proofs.Ytdhkmaiidbomdaf.P
open Go.RowKit Go.Proofs.YtdhkmaiidbomdafW.PrintWords Go.Proofs.YtdhkmaiidbomdafW.PrintLast Go.Proofs.YtdhkmaiidbomdafW.PrintMore
attribute [local go_sem] max2_int min2_int max_two min_two max_three min_three max_four min_four   -- for this text's walks alone
set_option linter.unusedVariables false
set_option linter.unusedSimpArgs false

/-! ### quoinref09_MayAlign: function 30 -/
def quoinref09_MayAlign.l0 : Nat → Int → Int → Option (Bool)
 | 0, _, _ => none
 | k + 1, x0, x3 => if x3 ≤ 64 then (if x0 = x3 then (some true) else (quoinref09_MayAlign.l0 k x0 (wrap64 (2 * x3)))) else (some false)
def quoinref09_MayAlign.f (k : Nat) (a0 : Int) : Option (Bool) := quoinref09_MayAlign.l0 k a0 1
theorem quoinref09_MayAlign.mono_l : ∀ k, (∀ y0 y1, LeO (quoinref09_MayAlign.l0 k y0 y1) (quoinref09_MayAlign.l0 (k + 1) y0 y1))
 | 0 => fun _ _ r h => by simp [quoinref09_MayAlign.l0] at h
 | k + 1 => by
  have ih0 := quoinref09_MayAlign.mono_l k
  ·
   intro y0 y1
   unfold quoinref09_MayAlign.l0
   repeat' first
   | (with_reducible exact ih0 _ _)
   | (with_reducible exact LeO.refl _)
   | (with_reducible exact LeO.none _)
   | (with_reducible refine LeO.ite ?_ ?_)
   | (with_reducible refine LeO.bind ?_ (fun _ => ?_))
   | exact ih0 _ _
   | exact LeO.none _
   | refine LeO.ite ?_ ?_
   | refine LeO.bind ?_ (fun _ => ?_)
theorem quoinref09_MayAlign.mono : ∀ a0 k, LeO (quoinref09_MayAlign.f k a0) (quoinref09_MayAlign.f (k + 1) a0) := by
 intro a0 k
 have ih0 := quoinref09_MayAlign.mono_l k
 unfold quoinref09_MayAlign.f
 repeat' first
   | (with_reducible exact ih0 _ _)
   | (with_reducible exact LeO.refl _)
   | (with_reducible exact LeO.none _)
   | (with_reducible refine LeO.ite ?_ ?_)
   | (with_reducible refine LeO.bind ?_ (fun _ => ?_))
   | exact ih0 _ _
   | exact LeO.none _
   | refine LeO.ite ?_ ?_
   | refine LeO.bind ?_ (fun _ => ?_)
set_option maxHeartbeats 8000000 in
set_option maxRecDepth 100000 in
theorem quoinref09_MayAlign.calls (k : Nat) (a0 : Int) (r : Bool) (w : World) (h : quoinref09_MayAlign.f k a0 = some r) :
  Calls Try.prog 30 #[.int .i64 a0] w fun e w' => e = .returned (.bool r) ∧ Drawn0 w w' := by
 have H : (quoinref09_MayAlign.l0 k a0 1) = some r := h
 clear h
 have H' := Aside0.mk H
 clear H
 go_enter Try.func30, Try.ntmps30
 go_wp2
 go_loopg [3] k (fun kq v3 w' => ∃ (x3_1 : Int), v3 = .int .i64 x3_1 ∧ Aside0 (quoinref09_MayAlign.l0 kq a0 x3_1 = some r) ∧ Aside0 (kq ≤ k) ∧ Drawn0 w w')
 case atStart => exact ⟨(1), (by first | rfl | (simp; done) | (simp [*]; done)), H', ⟨Nat.le_refl _⟩, by repeat (first | exact Drawn0.refl _ | apply Drawn0.step)⟩
 case round =>
  clear H'
  obtain ⟨x3_1, rfl, HA, HK1, ⟨m1, rfl⟩⟩ := hrel
  cases gk with
  | zero => exact absurd HA.out (by simp [quoinref09_MayAlign.l0])
  | succ k1 =>
   have H := HA.out
   clear HA
   simp only [quoinref09_MayAlign.l0] at H
   by_cases c2 : x3_1 ≤ 64
   ·
    rw [if_pos c2] at H
    have c2b0 : decide (x3_1 ≤ 64) = true := decide_eq_true c2
    clear c2
    by_cases c3 : a0 = x3_1
    ·
     rw [if_pos c3] at H
     have c3b0 : (a0 == x3_1) = true := beq_iff_eq.mpr c3
     have c3b1 : (a0 != x3_1) = false := bne_eq_false_iff_eq.mpr c3
     clear c3
     obtain rfl := Option.some.inj H
     go_wp2
     go_ret
     exact ⟨by first | rfl | (simp; done) | (simp [*]; done), by repeat (first | exact Drawn0.refl _ | apply Drawn0.step)⟩
    ·
     rw [if_neg c3] at H
     have c3b0 : (a0 == x3_1) = false := beq_eq_false_iff_ne.mpr c3
     have c3b1 : (a0 != x3_1) = true := bne_iff_ne.mpr c3
     have H' := Aside0.mk H
     clear H
     go_wp2
     go_roundg k1
     case measure => have := HK1.out; omega
     case rel => exact ⟨(wrap64 (2 * x3_1)), (by first | rfl | (simp; done) | (simp [*]; done)), H', ⟨by have := HK1.out; omega⟩, by repeat (first | exact Drawn0.refl _ | apply Drawn0.step)⟩
   ·
    rw [if_neg c2] at H
    have c2b0 : decide (x3_1 ≤ 64) = false := decide_eq_false c2
    clear c2
    obtain rfl := Option.some.inj H
    go_wp2
    go_ret
    exact ⟨by first | rfl | (simp; done) | (simp [*]; done), by repeat (first | exact Drawn0.refl _ | apply Drawn0.step)⟩

/-! ### quoinref09_May: function 21 -/
def quoinref09_May.j0 : Nat → Int → Bool → ByteArray → Int → List Int → Int → Option (Bool)
 | 0, _, _, _, _, _, _ => none
 | k + 1, x3, x14, x215000, x215001, x215002, x215003 => if x14 = true then (some false) else (if x3 = 4 then (if (x215002.length : Int) = 0 then (if x215003 ≥ 0 then (some (decide (x215003 ≤ 4096))) else (some false)) else (some false)) else (if (x215002.length : Int) ≤ 4096 then (some (x215003 == 0)) else (some false)))
def quoinref09_May.f (k : Nat) (a0_0 : ByteArray) (a0_1 : Int) (l0_2 : List Int) (a0_3 : Int) : Option (Bool) := (quoinref09_Of.f k a0_0).bind fun t215 => (if t215 = 0 then (quoinref09_May.j0 k t215 true a0_0 a0_1 l0_2 a0_3) else ((quoinref09_MayAlign.f k a0_1).bind fun t216 => (quoinref09_May.j0 k t215 (!t216) a0_0 a0_1 l0_2 a0_3)))
theorem quoinref09_May.mono_l : ∀ k, (∀ y0 y1 y2 y3 y4 y5, LeO (quoinref09_May.j0 k y0 y1 y2 y3 y4 y5) (quoinref09_May.j0 (k + 1) y0 y1 y2 y3 y4 y5))
 | 0 => fun _ _ _ _ _ _ r h => by simp [quoinref09_May.j0] at h
 | k + 1 => by
  have ih0 := quoinref09_May.mono_l k
  ·
   intro y0 y1 y2 y3 y4 y5
   unfold quoinref09_May.j0
   repeat' first
   | (with_reducible exact ih0 _ _ _ _ _ _)
   | (with_reducible exact quoinref09_MayAlign.mono _ _)
   | (with_reducible exact quoinref09_Of.mono _ _)
   | (with_reducible exact LeO.refl _)
   | (with_reducible exact LeO.none _)
   | (with_reducible refine LeO.ite ?_ ?_)
   | (with_reducible refine LeO.bind ?_ (fun _ => ?_))
   | exact ih0 _ _ _ _ _ _
   | exact quoinref09_MayAlign.mono _ _
   | exact quoinref09_Of.mono _ _
   | exact LeO.none _
   | refine LeO.ite ?_ ?_
   | refine LeO.bind ?_ (fun _ => ?_)
theorem quoinref09_May.mono : ∀ a0 a1 a2 a3 k, LeO (quoinref09_May.f k a0 a1 a2 a3) (quoinref09_May.f (k + 1) a0 a1 a2 a3) := by
 intro a0 a1 a2 a3 k
 have ih0 := quoinref09_May.mono_l k
 unfold quoinref09_May.f
 repeat' first
   | (with_reducible exact ih0 _ _ _ _ _ _)
   | (with_reducible exact quoinref09_MayAlign.mono _ _)
   | (with_reducible exact quoinref09_Of.mono _ _)
   | (with_reducible exact LeO.refl _)
   | (with_reducible exact LeO.none _)
   | (with_reducible refine LeO.ite ?_ ?_)
   | (with_reducible refine LeO.bind ?_ (fun _ => ?_))
   | exact ih0 _ _ _ _ _ _
   | exact quoinref09_MayAlign.mono _ _
   | exact quoinref09_Of.mono _ _
   | exact LeO.none _
   | refine LeO.ite ?_ ?_
   | refine LeO.bind ?_ (fun _ => ?_)
set_option maxHeartbeats 8000000 in
set_option maxRecDepth 100000 in
theorem quoinref09_May.calls (k : Nat) (a0_0 : ByteArray) (a0_1 : Int) (A0_2 : Option Addr) (c0_2 : Nat) (l0_2 : List Int) (a0_3 : Int) (r : Bool) (w : World) (hr0_2 : Kd.C (Kd.int .u8) w A0_2 l0_2.length l0_2) (hc0_2 : l0_2.length ≤ c0_2) (h : quoinref09_May.f k a0_0 a0_1 l0_2 a0_3 = some r) :
  Calls Try.prog 21 #[.agg #[.string a0_0, .int .i64 a0_1, .slice A0_2 l0_2.length c0_2, .int .i64 a0_3]] w fun e w' => e = .returned (.bool r) ∧ Below w.heap.size w w' := by
 have hu44 := Try.underlying44
 have HR0_2 := Aside0.mk hr0_2
 have HC0_2 := Aside0.mk hc0_2
 clear hr0_2 hc0_2
 have HB := Aside0.mk (Below.refl w.heap.size w)
 have H : ((quoinref09_Of.f k a0_0).bind fun t215 => (if t215 = 0 then (quoinref09_May.j0 k t215 true a0_0 a0_1 l0_2 a0_3) else ((quoinref09_MayAlign.f k a0_1).bind fun t216 => (quoinref09_May.j0 k t215 (!t216) a0_0 a0_1 l0_2 a0_3)))) = some r := h
 clear h
 replace H := Option.bind_eq_some_iff.mp H
 obtain ⟨t215, A20, H⟩ := H
 replace H : (if t215 = 0 then (quoinref09_May.j0 k t215 true a0_0 a0_1 l0_2 a0_3) else ((quoinref09_MayAlign.f k a0_1).bind fun t216 => (quoinref09_May.j0 k t215 (!t216) a0_0 a0_1 l0_2 a0_3))) = some r := H
 have A2 := Aside0.mk A20
 clear A20
 have HC3 := Aside0.mk H
 clear H
 go_enter Try.func21, Try.ntmps21
 go_upto_region 2 with (first | ((with_reducible refine gate_dst (N := 1) rfl ?_); refine box_event ?hg (N := 1) ?hd (cs := #[.string a0_0, .int .i64 a0_1, .slice A0_2 l0_2.length c0_2, .int .i64 a0_3]) (t := 44) ?hr ?_; (case hd => rfl); (case hg => rfl); (case hr => first | (go_simp; done) | (go_simp; rfl)); intro gb214 hg w4 hbox hb; have n0_ := Aside0.mk (below_step (by repeat (first | (with_reducible first | exact HB.out | apply below_alloc | apply pw_below_drewN | apply below_drew1) | exact HB.out)) hb); have n1_ := Aside0.mk (hbox); have n2_ := Aside0.mk ((by rw [hg]; exact (below_size (by repeat (first | (with_reducible first | exact HB.out | apply below_alloc | apply pw_below_drewN | apply below_drew1) | exact HB.out))) : w.heap.size ≤ gb214)); have n3_ := Aside0.mk ((by rw [hg]; exact (below_size (by repeat (first | (with_reducible first | exact HB.out | apply below_alloc | apply pw_below_drewN | apply below_drew1) | exact HB.out))) : w.heap.size ≤ gb214)); clear HB; have HB := n0_; have BK214 := n1_; have GW214 := n2_; have GE214 := n3_; clear n0_ n1_ n2_ n3_; clear hb hbox hg; have hcz5_0 : w4.cell? ⟨gb214, 0, none⟩ = some (.string a0_0) := (blk_cell BK214.out 0).trans rfl; have hcz5_1 : w4.cell? ⟨gb214, 1, none⟩ = some (.int .i64 a0_1) := (blk_cell BK214.out 1).trans rfl; have hcz5_2 : w4.cell? ⟨gb214, 2, none⟩ = some (.slice A0_2 l0_2.length c0_2) := (blk_cell BK214.out 2).trans rfl; have hcz5_3 : w4.cell? ⟨gb214, 3, none⟩ = some (.int .i64 a0_3) := (blk_cell BK214.out 3).trans rfl; have hfz5_0 := blk_frozen BK214.out 0; have hfz5_1 := blk_frozen BK214.out 1; have hfz5_2 := blk_frozen BK214.out 2; have hfz5_3 := blk_frozen BK214.out 3) | ((with_reducible refine gate_callee (f := 29) rfl ?_); refine goesL_ (some 6) rfl rfl Try.func29 (by kernel_rfl) rfl #[.string a0_0] rfl (by (try simp only [List.map_toArray, List.map_cons, List.map_nil]); first | done | rfl | (simp only [List.length_drop, List.length_take]; rfl)) ?_; (with_reducible refine (quoinref09_Of.calls k a0_0 t215 _ A2.out).mono ?_); rintro e w6 ⟨rfl, hb⟩; refine ⟨_, rfl, ?_⟩; have n0_ := Aside0.mk (blk_below (g := gb214) (o := .cells #[.string a0_0, .int .i64 a0_1, .slice A0_2 l0_2.length c0_2, .int .i64 a0_3] 44 (0, 0)) (by (with_reducible repeat (first | refine blk_drewN ?_ _ | refine blk_drew ?_ | refine blk_alloc ?_ _)); exact BK214.out) hb); have n1_ := Aside0.mk (below_step (by repeat (first | (with_reducible first | exact HB.out | apply below_alloc | apply pw_below_drewN | apply below_drew1 | refine below_set ?_ GE214.out) | exact HB.out)) hb); clear BK214; clear HB; have BK214 := n0_; have HB := n1_; clear n0_ n1_; (try clear hb); (try clear hb2); (try clear hk); (try clear hi)))
 (try simp only [Act.put, List.setIfInBounds_toArray, List.set_cons_zero, List.set_cons_succ])
 go_cut [14] (fun v14 wc => ∃ (kq : Nat) (x14_2 : Bool), v14 = .bool x14_2 ∧ Aside0 (quoinref09_May.j0 kq t215 x14_2 a0_0 a0_1 l0_2 a0_3 = some r) ∧ Aside0 (kq ≤ k) ∧ Aside0 (wc.heap[gb214]? = some (.cells #[.string a0_0, .int .i64 a0_1, (.slice A0_2 l0_2.length c0_2), .int .i64 a0_3] 44 (0, 0))) ∧ Aside0 (Below w.heap.size w wc))
 case first =>
  have H := HC3.out
  clear HC3
  by_cases c7 : t215 = 0
  ·
   rw [if_pos c7] at H
   have c7b0 : (t215 == 0) = true := beq_iff_eq.mpr c7
   have c7b1 : (t215 != 0) = false := bne_eq_false_iff_eq.mpr c7
   clear c7
   (first | rw [c7b0] | (simp only [i64_w, i32_w]; rw [c7b0]) | skip)
   have H' := Aside0.mk H
   clear H
   go_wp2
   go_meet
   case rel => exact ⟨_, (true), (by first | rfl | (simp; done) | (simp [*]; done)), H', ⟨by first | omega | exact Nat.le_refl _⟩, ⟨by (with_reducible repeat (first | refine blk_drewN ?_ _ | refine blk_drew ?_ | refine blk_alloc ?_ _)); exact BK214.out⟩, ⟨by repeat (first | (with_reducible first | exact HB.out | apply below_alloc | apply pw_below_drewN | apply below_drew1 | refine below_set ?_ GE214.out) | exact HB.out)⟩⟩
  ·
   rw [if_neg c7] at H
   have c7b0 : (t215 == 0) = false := beq_eq_false_iff_ne.mpr c7
   have c7b1 : (t215 != 0) = true := bne_iff_ne.mpr c7
   (first | rw [c7b0] | (simp only [i64_w, i32_w]; rw [c7b0]) | skip)
   replace H := Option.bind_eq_some_iff.mp H
   obtain ⟨t216, A80, H⟩ := H
   replace H : (quoinref09_May.j0 k t215 (!t216) a0_0 a0_1 l0_2 a0_3) = some r := H
   have A8 := Aside0.mk A80
   clear A80
   have H' := Aside0.mk H
   clear H
   have hcz9_0 : w6.cell? ⟨gb214, 0, none⟩ = some (.string a0_0) := (blk_cell BK214.out 0).trans rfl
   have hcz9_1 : w6.cell? ⟨gb214, 1, none⟩ = some (.int .i64 a0_1) := (blk_cell BK214.out 1).trans rfl
   have hcz9_2 : w6.cell? ⟨gb214, 2, none⟩ = some (.slice A0_2 l0_2.length c0_2) := (blk_cell BK214.out 2).trans rfl
   have hcz9_3 : w6.cell? ⟨gb214, 3, none⟩ = some (.int .i64 a0_3) := (blk_cell BK214.out 3).trans rfl
   have hfz9_0 := blk_frozen BK214.out 0
   have hfz9_1 := blk_frozen BK214.out 1
   have hfz9_2 := blk_frozen BK214.out 2
   have hfz9_3 := blk_frozen BK214.out 3
   go_wp2_with (first | (go_at_call 30; (with_reducible refine (quoinref09_MayAlign.calls k a0_1 t216 _ A8.out).mono ?_); rintro e w' ⟨rfl, ⟨nd, rfl⟩⟩))
   go_meet
   case rel => exact ⟨_, (!t216), (by first | rfl | (simp; done) | (simp [*]; done)), H', ⟨by first | omega | exact Nat.le_refl _⟩, ⟨by (with_reducible repeat (first | refine blk_drewN ?_ _ | refine blk_drew ?_ | refine blk_alloc ?_ _)); exact BK214.out⟩, ⟨by repeat (first | (with_reducible first | exact HB.out | apply below_alloc | apply pw_below_drewN | apply below_drew1 | refine below_set ?_ GE214.out) | exact HB.out)⟩⟩
 case rest =>
  clear HC3
  try clear c2
  try clear p2
  try clear c7
  try clear c7b0
  try clear c7b1
  try clear hcz5_0
  try clear hcz5_1
  try clear hcz5_2
  try clear hcz5_3
  try clear hcz9_0
  try clear hcz9_1
  try clear hcz9_2
  try clear hcz9_3
  try clear hfz5_0
  try clear hfz5_1
  try clear hfz5_2
  try clear hfz5_3
  try clear hfz9_0
  try clear hfz9_1
  try clear hfz9_2
  try clear hfz9_3
  obtain ⟨kq, x14_2, rfl, HA, HJ2, BK214, HB⟩ := hcut
  cases kq with
  | zero => exact absurd HA.out (by simp [quoinref09_May.j0])
  | succ kj2 =>
   have H := HA.out
   clear HA
   simp only [quoinref09_May.j0] at H
   by_cases c10 : x14_2 = true
   ·
    subst c10
    have H1 : (some false) = some r := by rw [if_pos rfl] at H; exact H
    clear H
    have H := H1
    clear H1
    obtain rfl := Option.some.inj H
    go_wp2
    go_ret
    exact ⟨by first | rfl | (simp [errW_none, errW_some] <;> rfl) | (simp [*, errW_none, errW_some] <;> rfl), by repeat (first | (with_reducible first | exact HB.out | apply below_alloc | apply pw_below_drewN | apply below_drew1 | refine below_set ?_ GE214.out) | exact HB.out)⟩
   ·
    replace c10 := Bool.eq_false_iff.mpr c10
    subst c10
    have H1 : (if t215 = 4 then (if (l0_2.length : Int) = 0 then (if a0_3 ≥ 0 then (some (decide (a0_3 ≤ 4096))) else (some false)) else (some false)) else (if (l0_2.length : Int) ≤ 4096 then (some (a0_3 == 0)) else (some false))) = some r := by rw [if_neg (show ¬ (false = true) by decide)] at H; exact H
    clear H
    have H := H1
    clear H1
    by_cases c11 : t215 = 4
    ·
     rw [if_pos c11] at H
     have c11b0 : (t215 == 4) = true := beq_iff_eq.mpr c11
     have c11b1 : (t215 != 4) = false := bne_eq_false_iff_eq.mpr c11
     clear c11
     by_cases c12 : (l0_2.length : Int) = 0
     ·
      rw [if_pos c12] at H
      have c12b0 : ((l0_2.length : Int) == 0) = true := beq_iff_eq.mpr c12
      have c12b1 : ((l0_2.length : Int) != 0) = false := bne_eq_false_iff_eq.mpr c12
      clear c12
      by_cases c13 : a0_3 ≥ 0
      ·
       rw [if_pos c13] at H
       have c13b0 : decide (0 ≤ a0_3) = true := decide_eq_true c13
       clear c13
       obtain rfl := Option.some.inj H
       have hcz14_0 : wc.cell? ⟨gb214, 0, none⟩ = some (.string a0_0) := (blk_cell BK214.out 0).trans rfl
       have hcz14_1 : wc.cell? ⟨gb214, 1, none⟩ = some (.int .i64 a0_1) := (blk_cell BK214.out 1).trans rfl
       have hcz14_2 : wc.cell? ⟨gb214, 2, none⟩ = some (.slice A0_2 l0_2.length c0_2) := (blk_cell BK214.out 2).trans rfl
       have hcz14_3 : wc.cell? ⟨gb214, 3, none⟩ = some (.int .i64 a0_3) := (blk_cell BK214.out 3).trans rfl
       have hfz14_0 := blk_frozen BK214.out 0
       have hfz14_1 := blk_frozen BK214.out 1
       have hfz14_2 := blk_frozen BK214.out 2
       have hfz14_3 := blk_frozen BK214.out 3
       go_wp2
       go_ret
       exact ⟨by first | rfl | (simp [errW_none, errW_some] <;> rfl) | (simp [*, errW_none, errW_some] <;> rfl), by repeat (first | (with_reducible first | exact HB.out | apply below_alloc | apply pw_below_drewN | apply below_drew1 | refine below_set ?_ GE214.out) | exact HB.out)⟩
      ·
       rw [if_neg c13] at H
       have c13b0 : decide (0 ≤ a0_3) = false := decide_eq_false c13
       clear c13
       obtain rfl := Option.some.inj H
       have hcz15_0 : wc.cell? ⟨gb214, 0, none⟩ = some (.string a0_0) := (blk_cell BK214.out 0).trans rfl
       have hcz15_1 : wc.cell? ⟨gb214, 1, none⟩ = some (.int .i64 a0_1) := (blk_cell BK214.out 1).trans rfl
       have hcz15_2 : wc.cell? ⟨gb214, 2, none⟩ = some (.slice A0_2 l0_2.length c0_2) := (blk_cell BK214.out 2).trans rfl
       have hcz15_3 : wc.cell? ⟨gb214, 3, none⟩ = some (.int .i64 a0_3) := (blk_cell BK214.out 3).trans rfl
       have hfz15_0 := blk_frozen BK214.out 0
       have hfz15_1 := blk_frozen BK214.out 1
       have hfz15_2 := blk_frozen BK214.out 2
       have hfz15_3 := blk_frozen BK214.out 3
       go_wp2
       go_ret
       exact ⟨by first | rfl | (simp [errW_none, errW_some] <;> rfl) | (simp [*, errW_none, errW_some] <;> rfl), by repeat (first | (with_reducible first | exact HB.out | apply below_alloc | apply pw_below_drewN | apply below_drew1 | refine below_set ?_ GE214.out) | exact HB.out)⟩
     ·
      rw [if_neg c12] at H
      have c12b0 : ((l0_2.length : Int) == 0) = false := beq_eq_false_iff_ne.mpr c12
      have c12b1 : ((l0_2.length : Int) != 0) = true := bne_iff_ne.mpr c12
      have c12b2 : ¬ (l0_2 = []) := fun h_ => c12 (by rw [h_]; rfl)
      obtain rfl := Option.some.inj H
      have hcz16_0 : wc.cell? ⟨gb214, 0, none⟩ = some (.string a0_0) := (blk_cell BK214.out 0).trans rfl
      have hcz16_1 : wc.cell? ⟨gb214, 1, none⟩ = some (.int .i64 a0_1) := (blk_cell BK214.out 1).trans rfl
      have hcz16_2 : wc.cell? ⟨gb214, 2, none⟩ = some (.slice A0_2 l0_2.length c0_2) := (blk_cell BK214.out 2).trans rfl
      have hcz16_3 : wc.cell? ⟨gb214, 3, none⟩ = some (.int .i64 a0_3) := (blk_cell BK214.out 3).trans rfl
      have hfz16_0 := blk_frozen BK214.out 0
      have hfz16_1 := blk_frozen BK214.out 1
      have hfz16_2 := blk_frozen BK214.out 2
      have hfz16_3 := blk_frozen BK214.out 3
      go_wp2
      go_ret
      exact ⟨by first | rfl | (simp [errW_none, errW_some] <;> rfl) | (simp [*, errW_none, errW_some] <;> rfl), by repeat (first | (with_reducible first | exact HB.out | apply below_alloc | apply pw_below_drewN | apply below_drew1 | refine below_set ?_ GE214.out) | exact HB.out)⟩
    ·
     rw [if_neg c11] at H
     have c11b0 : (t215 == 4) = false := beq_eq_false_iff_ne.mpr c11
     have c11b1 : (t215 != 4) = true := bne_iff_ne.mpr c11
     by_cases c17 : (l0_2.length : Int) ≤ 4096
     ·
      rw [if_pos c17] at H
      have c17b0 : decide ((l0_2.length : Int) ≤ 4096) = true := decide_eq_true c17
      have c17b1 : decide (l0_2.length ≤ 4096) = true := decide_eq_true (by omega)
      clear c17
      obtain rfl := Option.some.inj H
      have hcz18_0 : wc.cell? ⟨gb214, 0, none⟩ = some (.string a0_0) := (blk_cell BK214.out 0).trans rfl
      have hcz18_1 : wc.cell? ⟨gb214, 1, none⟩ = some (.int .i64 a0_1) := (blk_cell BK214.out 1).trans rfl
      have hcz18_2 : wc.cell? ⟨gb214, 2, none⟩ = some (.slice A0_2 l0_2.length c0_2) := (blk_cell BK214.out 2).trans rfl
      have hcz18_3 : wc.cell? ⟨gb214, 3, none⟩ = some (.int .i64 a0_3) := (blk_cell BK214.out 3).trans rfl
      have hfz18_0 := blk_frozen BK214.out 0
      have hfz18_1 := blk_frozen BK214.out 1
      have hfz18_2 := blk_frozen BK214.out 2
      have hfz18_3 := blk_frozen BK214.out 3
      go_wp2
      go_ret
      exact ⟨by first | rfl | (simp [errW_none, errW_some] <;> rfl) | (simp [*, errW_none, errW_some] <;> rfl), by repeat (first | (with_reducible first | exact HB.out | apply below_alloc | apply pw_below_drewN | apply below_drew1 | refine below_set ?_ GE214.out) | exact HB.out)⟩
     ·
      rw [if_neg c17] at H
      have c17b0 : decide ((l0_2.length : Int) ≤ 4096) = false := decide_eq_false c17
      have c17b1 : decide (l0_2.length ≤ 4096) = false := decide_eq_false (by omega)
      clear c17
      obtain rfl := Option.some.inj H
      have hcz19_0 : wc.cell? ⟨gb214, 0, none⟩ = some (.string a0_0) := (blk_cell BK214.out 0).trans rfl
      have hcz19_1 : wc.cell? ⟨gb214, 1, none⟩ = some (.int .i64 a0_1) := (blk_cell BK214.out 1).trans rfl
      have hcz19_2 : wc.cell? ⟨gb214, 2, none⟩ = some (.slice A0_2 l0_2.length c0_2) := (blk_cell BK214.out 2).trans rfl
      have hcz19_3 : wc.cell? ⟨gb214, 3, none⟩ = some (.int .i64 a0_3) := (blk_cell BK214.out 3).trans rfl
      have hfz19_0 := blk_frozen BK214.out 0
      have hfz19_1 := blk_frozen BK214.out 1
      have hfz19_2 := blk_frozen BK214.out 2
      have hfz19_3 := blk_frozen BK214.out 3
      go_wp2
      go_ret
      exact ⟨by first | rfl | (simp [errW_none, errW_some] <;> rfl) | (simp [*, errW_none, errW_some] <;> rfl), by repeat (first | (with_reducible first | exact HB.out | apply below_alloc | apply pw_below_drewN | apply below_drew1 | refine below_set ?_ GE214.out) | exact HB.out)⟩

/-! ### quoinref11_Plain: function 31 -/
def quoinref11_Plain.f (a0 : Int) : Option (Bool) := if a0 = 1 then (some true) else (if a0 = 2 then (some true) else (if a0 ≥ 33 then (some (decide (a0 ≤ 40))) else (some false)))
set_option maxHeartbeats 8000000 in
set_option maxRecDepth 100000 in
theorem quoinref11_Plain.calls (a0 : Int) (r : Bool) (w : World) (h : quoinref11_Plain.f a0 = some r) :
  Calls Try.prog 31 #[.int .u8 a0] w fun e w' => e = .returned (.bool r) ∧ Drawn0 w w' := by
 have H : (if a0 = 1 then (some true) else (if a0 = 2 then (some true) else (if a0 ≥ 33 then (some (decide (a0 ≤ 40))) else (some false)))) = some r := h
 clear h
 by_cases c2 : a0 = 1
 ·
  rw [if_pos c2] at H
  have c2b0 : (a0 == 1) = true := beq_iff_eq.mpr c2
  have c2b1 : (a0 != 1) = false := bne_eq_false_iff_eq.mpr c2
  clear c2
  obtain rfl := Option.some.inj H
  go_enter Try.func31, Try.ntmps31
  go_wp2
  go_ret
  exact ⟨by first | rfl | (simp; done) | (simp [*]; done), by repeat (first | exact Drawn0.refl _ | apply Drawn0.step)⟩
 ·
  rw [if_neg c2] at H
  have c2b0 : (a0 == 1) = false := beq_eq_false_iff_ne.mpr c2
  have c2b1 : (a0 != 1) = true := bne_iff_ne.mpr c2
  by_cases c3 : a0 = 2
  ·
   rw [if_pos c3] at H
   have c3b0 : (a0 == 2) = true := beq_iff_eq.mpr c3
   have c3b1 : (a0 != 2) = false := bne_eq_false_iff_eq.mpr c3
   clear c3
   obtain rfl := Option.some.inj H
   go_enter Try.func31, Try.ntmps31
   go_wp2
   go_ret
   exact ⟨by first | rfl | (simp; done) | (simp [*]; done), by repeat (first | exact Drawn0.refl _ | apply Drawn0.step)⟩
  ·
   rw [if_neg c3] at H
   have c3b0 : (a0 == 2) = false := beq_eq_false_iff_ne.mpr c3
   have c3b1 : (a0 != 2) = true := bne_iff_ne.mpr c3
   by_cases c4 : a0 ≥ 33
   ·
    rw [if_pos c4] at H
    have c4b0 : decide (33 ≤ a0) = true := decide_eq_true c4
    clear c4
    obtain rfl := Option.some.inj H
    go_enter Try.func31, Try.ntmps31
    go_wp2
    go_ret
    exact ⟨by first | rfl | (simp; done) | (simp [*]; done), by repeat (first | exact Drawn0.refl _ | apply Drawn0.step)⟩
   ·
    rw [if_neg c4] at H
    have c4b0 : decide (33 ≤ a0) = false := decide_eq_false c4
    clear c4
    obtain rfl := Option.some.inj H
    go_enter Try.func31, Try.ntmps31
    go_wp2
    go_ret
    exact ⟨by first | rfl | (simp; done) | (simp [*]; done), by repeat (first | exact Drawn0.refl _ | apply Drawn0.step)⟩

/-! ### quoinref11_May: function 22 -/
mutual
def quoinref11_May.j0 : Nat → List (S44) → Int → Int → Bool → Int → Int → Int → Int → Int → Option (Bool)
 | 0, _, _, _, _, _, _, _, _, _ => none
 | k + 1, x1, x2, x7, x37, x218000, x218001, x218002, x218003, x218004 => if x37 = true then (some false) else (if 0 ≤ (wrap64 (x218000 - 1)) then (if (wrap64 (x218000 - 1)) < (x1.length : Int) then ((quoinref09_Of.f k ((rd_T44 x1 (wrap64 (x218000 - 1))).f0)).bind fun t222 => (if t222 = 4 then (quoinref11_May.j1 k x2 t222 true x218000 x218001 x218002 x218003 x218004 ((rd_T44 x1 (wrap64 (x218000 - 1))).f0) ((rd_T44 x1 (wrap64 (x218000 - 1))).f1) ((rd_T44 x1 (wrap64 (x218000 - 1))).f2) ((rd_T44 x1 (wrap64 (x218000 - 1))).f3)) else (if x218001 > (((rd_T44 x1 (wrap64 (x218000 - 1))).f2).length : Int) then (quoinref11_May.j1 k x2 t222 true x218000 x218001 x218002 x218003 x218004 ((rd_T44 x1 (wrap64 (x218000 - 1))).f0) ((rd_T44 x1 (wrap64 (x218000 - 1))).f1) ((rd_T44 x1 (wrap64 (x218000 - 1))).f2) ((rd_T44 x1 (wrap64 (x218000 - 1))).f3)) else (quoinref11_May.j1 k x2 t222 (decide ((wrap64 ((((rd_T44 x1 (wrap64 (x218000 - 1))).f2).length : Int) - x218001)) < x7)) x218000 x218001 x218002 x218003 x218004 ((rd_T44 x1 (wrap64 (x218000 - 1))).f0) ((rd_T44 x1 (wrap64 (x218000 - 1))).f1) ((rd_T44 x1 (wrap64 (x218000 - 1))).f2) ((rd_T44 x1 (wrap64 (x218000 - 1))).f3))))) else (none)) else (none))
def quoinref11_May.j1 : Nat → Int → Int → Bool → Int → Int → Int → Int → Int → ByteArray → Int → List Int → Int → Option (Bool)
 | 0, _, _, _, _, _, _, _, _, _, _, _, _ => none
 | k + 1, x2, x9, x66, x218000, x218001, x218002, x218003, x218004, x222000, x222001, x222002, x222003 => if x66 = true then (some false) else ((quoinref11_Plain.f x218002).bind fun t223 => (if t223 = true then (quoinref11_May.j2 k x2 false x218000 x218001 x218002 x218003 x218004 x222000 x222001 x222002 x222003) else (if x9 = 1 then (quoinref11_May.j2 k x2 ((Int.tmod x218001 2) != 0) x218000 x218001 x218002 x218003 x218004 x222000 x222001 x222002 x222003) else (quoinref11_May.j2 k x2 true x218000 x218001 x218002 x218003 x218004 x222000 x222001 x222002 x222003))))
def quoinref11_May.j2 : Nat → Int → Bool → Int → Int → Int → Int → Int → ByteArray → Int → List Int → Int → Option (Bool)
 | 0, _, _, _, _, _, _, _, _, _, _, _ => none
 | k + 1, x2, x80, x218000, x218001, x218002, x218003, x218004, x222000, x222001, x222002, x222003 => if x80 = true then (some false) else (if x218002 = 51 then (if x218003 = (-1) then (some (x218004 == 0)) else (some false)) else (if x218002 = 43 then (if x218003 = (-1) then (if x218004 ≥ 0 then (if x218004 ≤ 62 then (if (Int.tmod x218004 2) = 0 then (some (decide ((wrap64 ((x222002.length : Int) - x218001)) ≥ x218004))) else (some false)) else (some false)) else (some false)) else (some false)) else (if x218002 = 24 then (quoinref11_May.j3 k x2 (x218002 == 24) x218000 x218001 x218002 x218003 x218004) else (quoinref11_May.j3 k x2 (x218002 == 25) x218000 x218001 x218002 x218003 x218004))))
def quoinref11_May.j3 : Nat → Int → Bool → Int → Int → Int → Int → Int → Option (Bool)
 | 0, _, _, _, _, _, _, _ => none
 | k + 1, x2, x125, x218000, x218001, x218002, x218003, x218004 => if x125 = true then (if x218004 = 0 then (if x218003 ≥ 0 then (some (decide (x218003 < x2))) else (some false)) else (some false)) else (if x218003 ≥ 0 then (some (decide (x218003 < x2))) else (some false))
end
def quoinref11_May.f (k : Nat) (a0_0 : Int) (a0_1 : Int) (a0_2 : Int) (a0_3 : Int) (a0_4 : Int) (l1 : List (S44)) (a2 : Int) : Option (Bool) := (quoinref11_About.f k a0_2).bind fun t218 => (if t218 < 0 then (quoinref11_May.j0 k l1 a2 t218 true a0_0 a0_1 a0_2 a0_3 a0_4) else (if a0_0 < 1 then (quoinref11_May.j0 k l1 a2 t218 true a0_0 a0_1 a0_2 a0_3 a0_4) else (if a0_0 > (l1.length : Int) then (quoinref11_May.j0 k l1 a2 t218 true a0_0 a0_1 a0_2 a0_3 a0_4) else (if a0_1 < 0 then (quoinref11_May.j0 k l1 a2 t218 true a0_0 a0_1 a0_2 a0_3 a0_4) else ((quoinref11_addend.f a0_4).bind fun t219 => (quoinref11_May.j0 k l1 a2 t218 (!t219) a0_0 a0_1 a0_2 a0_3 a0_4))))))
theorem quoinref11_May.mono_l : ∀ k, (∀ y0 y1 y2 y3 y4 y5 y6 y7 y8, LeO (quoinref11_May.j0 k y0 y1 y2 y3 y4 y5 y6 y7 y8) (quoinref11_May.j0 (k + 1) y0 y1 y2 y3 y4 y5 y6 y7 y8)) ∧ (∀ y0 y1 y2 y3 y4 y5 y6 y7 y8 y9 y10 y11, LeO (quoinref11_May.j1 k y0 y1 y2 y3 y4 y5 y6 y7 y8 y9 y10 y11) (quoinref11_May.j1 (k + 1) y0 y1 y2 y3 y4 y5 y6 y7 y8 y9 y10 y11)) ∧ (∀ y0 y1 y2 y3 y4 y5 y6 y7 y8 y9 y10, LeO (quoinref11_May.j2 k y0 y1 y2 y3 y4 y5 y6 y7 y8 y9 y10) (quoinref11_May.j2 (k + 1) y0 y1 y2 y3 y4 y5 y6 y7 y8 y9 y10)) ∧ (∀ y0 y1 y2 y3 y4 y5 y6, LeO (quoinref11_May.j3 k y0 y1 y2 y3 y4 y5 y6) (quoinref11_May.j3 (k + 1) y0 y1 y2 y3 y4 y5 y6))
 | 0 => ⟨fun _ _ _ _ _ _ _ _ _ r h => by simp [quoinref11_May.j0] at h, fun _ _ _ _ _ _ _ _ _ _ _ _ r h => by simp [quoinref11_May.j1] at h, fun _ _ _ _ _ _ _ _ _ _ _ r h => by simp [quoinref11_May.j2] at h, fun _ _ _ _ _ _ _ r h => by simp [quoinref11_May.j3] at h⟩
 | k + 1 => by
  obtain ⟨ih0, ih1, ih2, ih3⟩ := quoinref11_May.mono_l k
  refine ⟨?_, ?_, ?_, ?_⟩
  ·
   intro y0 y1 y2 y3 y4 y5 y6 y7 y8
   unfold quoinref11_May.j0
   repeat' first
   | (with_reducible exact ih0 _ _ _ _ _ _ _ _ _)
   | (with_reducible exact ih1 _ _ _ _ _ _ _ _ _ _ _ _)
   | (with_reducible exact ih2 _ _ _ _ _ _ _ _ _ _ _)
   | (with_reducible exact ih3 _ _ _ _ _ _ _)
   | (with_reducible exact quoinref09_Of.mono _ _)
   | (with_reducible exact quoinref11_About.mono _ _)
   | (with_reducible exact LeO.refl _)
   | (with_reducible exact LeO.none _)
   | (with_reducible refine LeO.ite ?_ ?_)
   | (with_reducible refine LeO.bind ?_ (fun _ => ?_))
   | exact ih0 _ _ _ _ _ _ _ _ _
   | exact ih1 _ _ _ _ _ _ _ _ _ _ _ _
   | exact ih2 _ _ _ _ _ _ _ _ _ _ _
   | exact ih3 _ _ _ _ _ _ _
   | exact quoinref09_Of.mono _ _
   | exact quoinref11_About.mono _ _
   | exact LeO.none _
   | refine LeO.ite ?_ ?_
   | refine LeO.bind ?_ (fun _ => ?_)
  ·
   intro y0 y1 y2 y3 y4 y5 y6 y7 y8 y9 y10 y11
   unfold quoinref11_May.j1
   repeat' first
   | (with_reducible exact ih0 _ _ _ _ _ _ _ _ _)
   | (with_reducible exact ih1 _ _ _ _ _ _ _ _ _ _ _ _)
   | (with_reducible exact ih2 _ _ _ _ _ _ _ _ _ _ _)
   | (with_reducible exact ih3 _ _ _ _ _ _ _)
   | (with_reducible exact quoinref09_Of.mono _ _)
   | (with_reducible exact quoinref11_About.mono _ _)
   | (with_reducible exact LeO.refl _)
   | (with_reducible exact LeO.none _)
   | (with_reducible refine LeO.ite ?_ ?_)
   | (with_reducible refine LeO.bind ?_ (fun _ => ?_))
   | exact ih0 _ _ _ _ _ _ _ _ _
   | exact ih1 _ _ _ _ _ _ _ _ _ _ _ _
   | exact ih2 _ _ _ _ _ _ _ _ _ _ _
   | exact ih3 _ _ _ _ _ _ _
   | exact quoinref09_Of.mono _ _
   | exact quoinref11_About.mono _ _
   | exact LeO.none _
   | refine LeO.ite ?_ ?_
   | refine LeO.bind ?_ (fun _ => ?_)
  ·
   intro y0 y1 y2 y3 y4 y5 y6 y7 y8 y9 y10
   unfold quoinref11_May.j2
   repeat' first
   | (with_reducible exact ih0 _ _ _ _ _ _ _ _ _)
   | (with_reducible exact ih1 _ _ _ _ _ _ _ _ _ _ _ _)
   | (with_reducible exact ih2 _ _ _ _ _ _ _ _ _ _ _)
   | (with_reducible exact ih3 _ _ _ _ _ _ _)
   | (with_reducible exact quoinref09_Of.mono _ _)
   | (with_reducible exact quoinref11_About.mono _ _)
   | (with_reducible exact LeO.refl _)
   | (with_reducible exact LeO.none _)
   | (with_reducible refine LeO.ite ?_ ?_)
   | (with_reducible refine LeO.bind ?_ (fun _ => ?_))
   | exact ih0 _ _ _ _ _ _ _ _ _
   | exact ih1 _ _ _ _ _ _ _ _ _ _ _ _
   | exact ih2 _ _ _ _ _ _ _ _ _ _ _
   | exact ih3 _ _ _ _ _ _ _
   | exact quoinref09_Of.mono _ _
   | exact quoinref11_About.mono _ _
   | exact LeO.none _
   | refine LeO.ite ?_ ?_
   | refine LeO.bind ?_ (fun _ => ?_)
  ·
   intro y0 y1 y2 y3 y4 y5 y6
   unfold quoinref11_May.j3
   repeat' first
   | (with_reducible exact ih0 _ _ _ _ _ _ _ _ _)
   | (with_reducible exact ih1 _ _ _ _ _ _ _ _ _ _ _ _)
   | (with_reducible exact ih2 _ _ _ _ _ _ _ _ _ _ _)
   | (with_reducible exact ih3 _ _ _ _ _ _ _)
   | (with_reducible exact quoinref09_Of.mono _ _)
   | (with_reducible exact quoinref11_About.mono _ _)
   | (with_reducible exact LeO.refl _)
   | (with_reducible exact LeO.none _)
   | (with_reducible refine LeO.ite ?_ ?_)
   | (with_reducible refine LeO.bind ?_ (fun _ => ?_))
   | exact ih0 _ _ _ _ _ _ _ _ _
   | exact ih1 _ _ _ _ _ _ _ _ _ _ _ _
   | exact ih2 _ _ _ _ _ _ _ _ _ _ _
   | exact ih3 _ _ _ _ _ _ _
   | exact quoinref09_Of.mono _ _
   | exact quoinref11_About.mono _ _
   | exact LeO.none _
   | refine LeO.ite ?_ ?_
   | refine LeO.bind ?_ (fun _ => ?_)
theorem quoinref11_May.mono : ∀ a0 a1 a2 a3 a4 a5 a6 k, LeO (quoinref11_May.f k a0 a1 a2 a3 a4 a5 a6) (quoinref11_May.f (k + 1) a0 a1 a2 a3 a4 a5 a6) := by
 intro a0 a1 a2 a3 a4 a5 a6 k
 obtain ⟨ih0, ih1, ih2, ih3⟩ := quoinref11_May.mono_l k
 unfold quoinref11_May.f
 repeat' first
   | (with_reducible exact ih0 _ _ _ _ _ _ _ _ _)
   | (with_reducible exact ih1 _ _ _ _ _ _ _ _ _ _ _ _)
   | (with_reducible exact ih2 _ _ _ _ _ _ _ _ _ _ _)
   | (with_reducible exact ih3 _ _ _ _ _ _ _)
   | (with_reducible exact quoinref09_Of.mono _ _)
   | (with_reducible exact quoinref11_About.mono _ _)
   | (with_reducible exact LeO.refl _)
   | (with_reducible exact LeO.none _)
   | (with_reducible refine LeO.ite ?_ ?_)
   | (with_reducible refine LeO.bind ?_ (fun _ => ?_))
   | exact ih0 _ _ _ _ _ _ _ _ _
   | exact ih1 _ _ _ _ _ _ _ _ _ _ _ _
   | exact ih2 _ _ _ _ _ _ _ _ _ _ _
   | exact ih3 _ _ _ _ _ _ _
   | exact quoinref09_Of.mono _ _
   | exact quoinref11_About.mono _ _
   | exact LeO.none _
   | refine LeO.ite ?_ ?_
   | refine LeO.bind ?_ (fun _ => ?_)
set_option maxHeartbeats 8000000 in
set_option maxRecDepth 100000 in
theorem quoinref11_May.calls (k : Nat) (a0_0 : Int) (a0_1 : Int) (a0_2 : Int) (a0_3 : Int) (a0_4 : Int) (A1 : Option Addr) (c1 : Nat) (l1 : List (S44)) (a2 : Int) (r : Bool) (w : World) (hr1 : Kd.C k44 w A1 l1.length l1) (hc1 : l1.length ≤ c1) (h : quoinref11_May.f k a0_0 a0_1 a0_2 a0_3 a0_4 l1 a2 = some r) :
  Calls Try.prog 22 #[.agg #[.int .i64 a0_0, .int .i64 a0_1, .int .u8 a0_2, .int .i64 a0_3, .int .i64 a0_4], .slice A1 l1.length c1, .int .i64 a2] w fun e w' => e = .returned (.bool r) ∧ Below w.heap.size w w' := by
 have hu23 := Try.underlying23
 have hu44 := Try.underlying44
 have HR1 := Aside0.mk hr1
 have HC1 := Aside0.mk hc1
 clear hr1 hc1
 have HB := Aside0.mk (Below.refl w.heap.size w)
 have H : ((quoinref11_About.f k a0_2).bind fun t218 => (if t218 < 0 then (quoinref11_May.j0 k l1 a2 t218 true a0_0 a0_1 a0_2 a0_3 a0_4) else (if a0_0 < 1 then (quoinref11_May.j0 k l1 a2 t218 true a0_0 a0_1 a0_2 a0_3 a0_4) else (if a0_0 > (l1.length : Int) then (quoinref11_May.j0 k l1 a2 t218 true a0_0 a0_1 a0_2 a0_3 a0_4) else (if a0_1 < 0 then (quoinref11_May.j0 k l1 a2 t218 true a0_0 a0_1 a0_2 a0_3 a0_4) else ((quoinref11_addend.f a0_4).bind fun t219 => (quoinref11_May.j0 k l1 a2 t218 (!t219) a0_0 a0_1 a0_2 a0_3 a0_4))))))) = some r := h
 clear h
 replace H := Option.bind_eq_some_iff.mp H
 obtain ⟨t218, A40, H⟩ := H
 replace H : (if t218 < 0 then (quoinref11_May.j0 k l1 a2 t218 true a0_0 a0_1 a0_2 a0_3 a0_4) else (if a0_0 < 1 then (quoinref11_May.j0 k l1 a2 t218 true a0_0 a0_1 a0_2 a0_3 a0_4) else (if a0_0 > (l1.length : Int) then (quoinref11_May.j0 k l1 a2 t218 true a0_0 a0_1 a0_2 a0_3 a0_4) else (if a0_1 < 0 then (quoinref11_May.j0 k l1 a2 t218 true a0_0 a0_1 a0_2 a0_3 a0_4) else ((quoinref11_addend.f a0_4).bind fun t219 => (quoinref11_May.j0 k l1 a2 t218 (!t219) a0_0 a0_1 a0_2 a0_3 a0_4)))))) = some r := H
 have A4 := Aside0.mk A40
 clear A40
 have HC5 := Aside0.mk H
 clear H
 go_enter Try.func22, Try.ntmps22
 go_upto_region 2 with (first | ((with_reducible refine gate_dst (N := 3) rfl ?_); (try (refine gate_guard (by rfl) ?_; dsimp only)); refine box_event ?hg (N := 3) ?hd (cs := #[.int .i64 a0_0, .int .i64 a0_1, .int .u8 a0_2, .int .i64 a0_3, .int .i64 a0_4]) (t := 23) ?hr ?_; (case hd => rfl); (case hg => rfl); (case hr => first | (go_simp; done) | (go_simp; rfl)); intro gb217 hg w6 hbox hb; have n0_ := Aside0.mk (below_step (by repeat (first | (with_reducible first | exact HB.out | apply below_alloc | apply pw_below_drewN | apply below_drew1) | exact HB.out)) hb); have n1_ := Aside0.mk (hbox); have n2_ := Aside0.mk ((by rw [hg]; exact (below_size (by repeat (first | (with_reducible first | exact HB.out | apply below_alloc | apply pw_below_drewN | apply below_drew1) | exact HB.out))) : w.heap.size ≤ gb217)); have n3_ := Aside0.mk ((by rw [hg]; exact (below_size (by repeat (first | (with_reducible first | exact HB.out | apply below_alloc | apply pw_below_drewN | apply below_drew1) | exact HB.out))) : w.heap.size ≤ gb217)); clear HB; have HB := n0_; have BK217 := n1_; have GW217 := n2_; have GE217 := n3_; clear n0_ n1_ n2_ n3_; clear hb hbox hg; have hcz7_0 : w6.cell? ⟨gb217, 0, none⟩ = some (.int .i64 a0_0) := (blk_cell BK217.out 0).trans rfl; have hcz7_1 : w6.cell? ⟨gb217, 1, none⟩ = some (.int .i64 a0_1) := (blk_cell BK217.out 1).trans rfl; have hcz7_2 : w6.cell? ⟨gb217, 2, none⟩ = some (.int .u8 a0_2) := (blk_cell BK217.out 2).trans rfl; have hcz7_3 : w6.cell? ⟨gb217, 3, none⟩ = some (.int .i64 a0_3) := (blk_cell BK217.out 3).trans rfl; have hcz7_4 : w6.cell? ⟨gb217, 4, none⟩ = some (.int .i64 a0_4) := (blk_cell BK217.out 4).trans rfl; have hfz7_0 := blk_frozen BK217.out 0; have hfz7_1 := blk_frozen BK217.out 1; have hfz7_2 := blk_frozen BK217.out 2; have hfz7_3 := blk_frozen BK217.out 3; have hfz7_4 := blk_frozen BK217.out 4) | ((with_reducible refine gate_callee (f := 13) rfl ?_); refine goesL_ (some 12) rfl rfl Try.func13 (by kernel_rfl) rfl #[.int .u8 a0_2] rfl (by (try simp only [List.map_toArray, List.map_cons, List.map_nil]); first | done | rfl | (simp only [List.length_drop, List.length_take]; rfl)) ?_; (with_reducible refine (quoinref11_About.calls k a0_2 t218 _ A4.out).mono ?_); rintro e w' ⟨rfl, ⟨nd, rfl⟩⟩; refine ⟨_, rfl, ?_⟩))
 (try simp only [Act.put, List.setIfInBounds_toArray, List.set_cons_zero, List.set_cons_succ])
 go_cut [37] (fun v37 wc => ∃ (kq : Nat) (x37_4 : Bool), v37 = .bool x37_4 ∧ Aside0 (quoinref11_May.j0 kq l1 a2 t218 x37_4 a0_0 a0_1 a0_2 a0_3 a0_4 = some r) ∧ Aside0 (kq ≤ k) ∧ Aside0 (wc.heap[gb217]? = some (.cells #[.int .i64 a0_0, .int .i64 a0_1, .int .u8 a0_2, .int .i64 a0_3, .int .i64 a0_4] 23 (0, 0))) ∧ Aside0 (Below w.heap.size w wc))
 case first =>
  have H := HC5.out
  clear HC5
  by_cases c8 : t218 < 0
  ·
   rw [if_pos c8] at H
   have c8b0 : decide (t218 < 0) = true := decide_eq_true c8
   clear c8
   (first | rw [c8b0] | (simp only [i64_w, i32_w]; rw [c8b0]) | skip)
   have H' := Aside0.mk H
   clear H
   go_wp2
   go_meet
   case rel => exact ⟨_, (true), (by first | rfl | (simp; done) | (simp [*]; done)), H', ⟨by first | omega | exact Nat.le_refl _⟩, ⟨by (with_reducible repeat (first | refine blk_drewN ?_ _ | refine blk_drew ?_ | refine blk_alloc ?_ _)); exact BK217.out⟩, ⟨by repeat (first | (with_reducible first | exact HB.out | apply below_alloc | apply pw_below_drewN | apply below_drew1 | refine below_set ?_ GE217.out) | exact HB.out)⟩⟩
  ·
   rw [if_neg c8] at H
   have c8b0 : decide (t218 < 0) = false := decide_eq_false c8
   clear c8
   (first | rw [c8b0] | (simp only [i64_w, i32_w]; rw [c8b0]) | skip)
   by_cases c9 : a0_0 < 1
   ·
    rw [if_pos c9] at H
    have c9b0 : decide (a0_0 < 1) = true := decide_eq_true c9
    clear c9
    have H' := Aside0.mk H
    clear H
    have hcz10_0 : w6.cell? ⟨gb217, 0, none⟩ = some (.int .i64 a0_0) := (blk_cell BK217.out 0).trans rfl
    have hcz10_1 : w6.cell? ⟨gb217, 1, none⟩ = some (.int .i64 a0_1) := (blk_cell BK217.out 1).trans rfl
    have hcz10_2 : w6.cell? ⟨gb217, 2, none⟩ = some (.int .u8 a0_2) := (blk_cell BK217.out 2).trans rfl
    have hcz10_3 : w6.cell? ⟨gb217, 3, none⟩ = some (.int .i64 a0_3) := (blk_cell BK217.out 3).trans rfl
    have hcz10_4 : w6.cell? ⟨gb217, 4, none⟩ = some (.int .i64 a0_4) := (blk_cell BK217.out 4).trans rfl
    have hfz10_0 := blk_frozen BK217.out 0
    have hfz10_1 := blk_frozen BK217.out 1
    have hfz10_2 := blk_frozen BK217.out 2
    have hfz10_3 := blk_frozen BK217.out 3
    have hfz10_4 := blk_frozen BK217.out 4
    go_wp2
    go_meet
    case rel => exact ⟨_, (true), (by first | rfl | (simp; done) | (simp [*]; done)), H', ⟨by first | omega | exact Nat.le_refl _⟩, ⟨by (with_reducible repeat (first | refine blk_drewN ?_ _ | refine blk_drew ?_ | refine blk_alloc ?_ _)); exact BK217.out⟩, ⟨by repeat (first | (with_reducible first | exact HB.out | apply below_alloc | apply pw_below_drewN | apply below_drew1 | refine below_set ?_ GE217.out) | exact HB.out)⟩⟩
   ·
    rw [if_neg c9] at H
    have c9b0 : decide (a0_0 < 1) = false := decide_eq_false c9
    clear c9
    by_cases c11 : a0_0 > (l1.length : Int)
    ·
     rw [if_pos c11] at H
     have c11b0 : decide ((l1.length : Int) < a0_0) = true := decide_eq_true c11
     clear c11
     have H' := Aside0.mk H
     clear H
     have hcz12_0 : w6.cell? ⟨gb217, 0, none⟩ = some (.int .i64 a0_0) := (blk_cell BK217.out 0).trans rfl
     have hcz12_1 : w6.cell? ⟨gb217, 1, none⟩ = some (.int .i64 a0_1) := (blk_cell BK217.out 1).trans rfl
     have hcz12_2 : w6.cell? ⟨gb217, 2, none⟩ = some (.int .u8 a0_2) := (blk_cell BK217.out 2).trans rfl
     have hcz12_3 : w6.cell? ⟨gb217, 3, none⟩ = some (.int .i64 a0_3) := (blk_cell BK217.out 3).trans rfl
     have hcz12_4 : w6.cell? ⟨gb217, 4, none⟩ = some (.int .i64 a0_4) := (blk_cell BK217.out 4).trans rfl
     have hfz12_0 := blk_frozen BK217.out 0
     have hfz12_1 := blk_frozen BK217.out 1
     have hfz12_2 := blk_frozen BK217.out 2
     have hfz12_3 := blk_frozen BK217.out 3
     have hfz12_4 := blk_frozen BK217.out 4
     go_wp2
     go_meet
     case rel => exact ⟨_, (true), (by first | rfl | (simp; done) | (simp [*]; done)), H', ⟨by first | omega | exact Nat.le_refl _⟩, ⟨by (with_reducible repeat (first | refine blk_drewN ?_ _ | refine blk_drew ?_ | refine blk_alloc ?_ _)); exact BK217.out⟩, ⟨by repeat (first | (with_reducible first | exact HB.out | apply below_alloc | apply pw_below_drewN | apply below_drew1 | refine below_set ?_ GE217.out) | exact HB.out)⟩⟩
    ·
     rw [if_neg c11] at H
     have c11b0 : decide ((l1.length : Int) < a0_0) = false := decide_eq_false c11
     clear c11
     by_cases c13 : a0_1 < 0
     ·
      rw [if_pos c13] at H
      have c13b0 : decide (a0_1 < 0) = true := decide_eq_true c13
      clear c13
      have H' := Aside0.mk H
      clear H
      have hcz14_0 : w6.cell? ⟨gb217, 0, none⟩ = some (.int .i64 a0_0) := (blk_cell BK217.out 0).trans rfl
      have hcz14_1 : w6.cell? ⟨gb217, 1, none⟩ = some (.int .i64 a0_1) := (blk_cell BK217.out 1).trans rfl
      have hcz14_2 : w6.cell? ⟨gb217, 2, none⟩ = some (.int .u8 a0_2) := (blk_cell BK217.out 2).trans rfl
      have hcz14_3 : w6.cell? ⟨gb217, 3, none⟩ = some (.int .i64 a0_3) := (blk_cell BK217.out 3).trans rfl
      have hcz14_4 : w6.cell? ⟨gb217, 4, none⟩ = some (.int .i64 a0_4) := (blk_cell BK217.out 4).trans rfl
      have hfz14_0 := blk_frozen BK217.out 0
      have hfz14_1 := blk_frozen BK217.out 1
      have hfz14_2 := blk_frozen BK217.out 2
      have hfz14_3 := blk_frozen BK217.out 3
      have hfz14_4 := blk_frozen BK217.out 4
      go_wp2
      go_meet
      case rel => exact ⟨_, (true), (by first | rfl | (simp; done) | (simp [*]; done)), H', ⟨by first | omega | exact Nat.le_refl _⟩, ⟨by (with_reducible repeat (first | refine blk_drewN ?_ _ | refine blk_drew ?_ | refine blk_alloc ?_ _)); exact BK217.out⟩, ⟨by repeat (first | (with_reducible first | exact HB.out | apply below_alloc | apply pw_below_drewN | apply below_drew1 | refine below_set ?_ GE217.out) | exact HB.out)⟩⟩
     ·
      rw [if_neg c13] at H
      have c13b0 : decide (a0_1 < 0) = false := decide_eq_false c13
      clear c13
      replace H := Option.bind_eq_some_iff.mp H
      obtain ⟨t219, A150, H⟩ := H
      replace H : (quoinref11_May.j0 k l1 a2 t218 (!t219) a0_0 a0_1 a0_2 a0_3 a0_4) = some r := H
      have A15 := Aside0.mk A150
      clear A150
      have H' := Aside0.mk H
      clear H
      have hcz16_0 : w6.cell? ⟨gb217, 0, none⟩ = some (.int .i64 a0_0) := (blk_cell BK217.out 0).trans rfl
      have hcz16_1 : w6.cell? ⟨gb217, 1, none⟩ = some (.int .i64 a0_1) := (blk_cell BK217.out 1).trans rfl
      have hcz16_2 : w6.cell? ⟨gb217, 2, none⟩ = some (.int .u8 a0_2) := (blk_cell BK217.out 2).trans rfl
      have hcz16_3 : w6.cell? ⟨gb217, 3, none⟩ = some (.int .i64 a0_3) := (blk_cell BK217.out 3).trans rfl
      have hcz16_4 : w6.cell? ⟨gb217, 4, none⟩ = some (.int .i64 a0_4) := (blk_cell BK217.out 4).trans rfl
      have hfz16_0 := blk_frozen BK217.out 0
      have hfz16_1 := blk_frozen BK217.out 1
      have hfz16_2 := blk_frozen BK217.out 2
      have hfz16_3 := blk_frozen BK217.out 3
      have hfz16_4 := blk_frozen BK217.out 4
      go_wp2_with (first | (go_at_call 24; (with_reducible refine (quoinref11_addend.calls a0_4 t219 _ A15.out).mono ?_); rintro e w' ⟨rfl, ⟨nd, rfl⟩⟩))
      go_meet
      case rel => exact ⟨_, (!t219), (by first | rfl | (simp; done) | (simp [*]; done)), H', ⟨by first | omega | exact Nat.le_refl _⟩, ⟨by (with_reducible repeat (first | refine blk_drewN ?_ _ | refine blk_drew ?_ | refine blk_alloc ?_ _)); exact BK217.out⟩, ⟨by repeat (first | (with_reducible first | exact HB.out | apply below_alloc | apply pw_below_drewN | apply below_drew1 | refine below_set ?_ GE217.out) | exact HB.out)⟩⟩
 case rest =>
  clear HC5
  try clear c1
  try clear c2
  try clear p2
  try clear c8
  try clear c8b0
  try clear c9
  try clear c9b0
  try clear c11
  try clear c11b0
  try clear c13
  try clear c13b0
  try clear hcz10_0
  try clear hcz10_1
  try clear hcz10_2
  try clear hcz10_3
  try clear hcz10_4
  try clear hcz12_0
  try clear hcz12_1
  try clear hcz12_2
  try clear hcz12_3
  try clear hcz12_4
  try clear hcz14_0
  try clear hcz14_1
  try clear hcz14_2
  try clear hcz14_3
  try clear hcz14_4
  try clear hcz16_0
  try clear hcz16_1
  try clear hcz16_2
  try clear hcz16_3
  try clear hcz16_4
  try clear hcz7_0
  try clear hcz7_1
  try clear hcz7_2
  try clear hcz7_3
  try clear hcz7_4
  try clear hfz10_0
  try clear hfz10_1
  try clear hfz10_2
  try clear hfz10_3
  try clear hfz10_4
  try clear hfz12_0
  try clear hfz12_1
  try clear hfz12_2
  try clear hfz12_3
  try clear hfz12_4
  try clear hfz14_0
  try clear hfz14_1
  try clear hfz14_2
  try clear hfz14_3
  try clear hfz14_4
  try clear hfz16_0
  try clear hfz16_1
  try clear hfz16_2
  try clear hfz16_3
  try clear hfz16_4
  try clear hfz7_0
  try clear hfz7_1
  try clear hfz7_2
  try clear hfz7_3
  try clear hfz7_4
  obtain ⟨kq, x37_4, rfl, HA, HJ4, BK217, HB⟩ := hcut
  cases kq with
  | zero => exact absurd HA.out (by simp [quoinref11_May.j0])
  | succ kj4 =>
   have H := HA.out
   clear HA
   simp only [quoinref11_May.j0] at H
   by_cases c17 : x37_4 = true
   ·
    subst c17
    have H1 : (some false) = some r := by rw [if_pos rfl] at H; exact H
    clear H
    have H := H1
    clear H1
    obtain rfl := Option.some.inj H
    go_wp2
    go_ret
    exact ⟨by first | rfl | (simp [errW_none, errW_some] <;> rfl) | (simp [*, errW_none, errW_some] <;> rfl), by repeat (first | (with_reducible first | exact HB.out | apply below_alloc | apply pw_below_drewN | apply below_drew1 | refine below_set ?_ GE217.out) | exact HB.out)⟩
   ·
    replace c17 := Bool.eq_false_iff.mpr c17
    subst c17
    have H1 : (if 0 ≤ (wrap64 (a0_0 - 1)) then (if (wrap64 (a0_0 - 1)) < (l1.length : Int) then ((quoinref09_Of.f kj4 ((rd_T44 l1 (wrap64 (a0_0 - 1))).f0)).bind fun t222 => (if t222 = 4 then (quoinref11_May.j1 kj4 a2 t222 true a0_0 a0_1 a0_2 a0_3 a0_4 ((rd_T44 l1 (wrap64 (a0_0 - 1))).f0) ((rd_T44 l1 (wrap64 (a0_0 - 1))).f1) ((rd_T44 l1 (wrap64 (a0_0 - 1))).f2) ((rd_T44 l1 (wrap64 (a0_0 - 1))).f3)) else (if a0_1 > (((rd_T44 l1 (wrap64 (a0_0 - 1))).f2).length : Int) then (quoinref11_May.j1 kj4 a2 t222 true a0_0 a0_1 a0_2 a0_3 a0_4 ((rd_T44 l1 (wrap64 (a0_0 - 1))).f0) ((rd_T44 l1 (wrap64 (a0_0 - 1))).f1) ((rd_T44 l1 (wrap64 (a0_0 - 1))).f2) ((rd_T44 l1 (wrap64 (a0_0 - 1))).f3)) else (quoinref11_May.j1 kj4 a2 t222 (decide ((wrap64 ((((rd_T44 l1 (wrap64 (a0_0 - 1))).f2).length : Int) - a0_1)) < t218)) a0_0 a0_1 a0_2 a0_3 a0_4 ((rd_T44 l1 (wrap64 (a0_0 - 1))).f0) ((rd_T44 l1 (wrap64 (a0_0 - 1))).f1) ((rd_T44 l1 (wrap64 (a0_0 - 1))).f2) ((rd_T44 l1 (wrap64 (a0_0 - 1))).f3))))) else (none)) else (none)) = some r := by rw [if_neg (show ¬ (false = true) by decide)] at H; exact H
    clear H
    have H := H1
    clear H1
    obtain ⟨ji18, hji18⟩ : ∃ j_ : Int, (wrap64 (a0_0 - 1)) = j_ := ⟨_, rfl⟩
    replace H : (if 0 ≤ (ji18) then (if (ji18) < (l1.length : Int) then ((quoinref09_Of.f kj4 ((rd_T44 l1 (ji18)).f0)).bind fun t222 => (if t222 = 4 then (quoinref11_May.j1 kj4 a2 t222 true a0_0 a0_1 a0_2 a0_3 a0_4 ((rd_T44 l1 (ji18)).f0) ((rd_T44 l1 (ji18)).f1) ((rd_T44 l1 (ji18)).f2) ((rd_T44 l1 (ji18)).f3)) else (if a0_1 > (((rd_T44 l1 (ji18)).f2).length : Int) then (quoinref11_May.j1 kj4 a2 t222 true a0_0 a0_1 a0_2 a0_3 a0_4 ((rd_T44 l1 (ji18)).f0) ((rd_T44 l1 (ji18)).f1) ((rd_T44 l1 (ji18)).f2) ((rd_T44 l1 (ji18)).f3)) else (quoinref11_May.j1 kj4 a2 t222 (decide ((wrap64 ((((rd_T44 l1 (ji18)).f2).length : Int) - a0_1)) < t218)) a0_0 a0_1 a0_2 a0_3 a0_4 ((rd_T44 l1 (ji18)).f0) ((rd_T44 l1 (ji18)).f1) ((rd_T44 l1 (ji18)).f2) ((rd_T44 l1 (ji18)).f3))))) else (none)) else (none)) = some r := by first | (rw [hji18] at H; exact H) | (simp only [hji18] at H ⊢; exact H)
    have hji18w : (IntKind.i64.wrap (a0_0 - 1)) = ji18 := (i64_w _).trans hji18
    by_cases c19 : 0 ≤ (ji18)
    ·
     rw [if_pos c19] at H
     have c19b0 : decide (0 ≤ (ji18)) = true := decide_eq_true c19
     clear c19
     by_cases c20 : (ji18) < (l1.length : Int)
     ·
      rw [if_pos c20] at H
      have c20b0 : decide ((ji18) < (l1.length : Int)) = true := decide_eq_true c20
      clear c20
      replace H := Option.bind_eq_some_iff.mp H
      obtain ⟨t222, A210, H⟩ := H
      replace H : (if t222 = 4 then (quoinref11_May.j1 kj4 a2 t222 true a0_0 a0_1 a0_2 a0_3 a0_4 ((rd_T44 l1 (ji18)).f0) ((rd_T44 l1 (ji18)).f1) ((rd_T44 l1 (ji18)).f2) ((rd_T44 l1 (ji18)).f3)) else (if a0_1 > (((rd_T44 l1 (ji18)).f2).length : Int) then (quoinref11_May.j1 kj4 a2 t222 true a0_0 a0_1 a0_2 a0_3 a0_4 ((rd_T44 l1 (ji18)).f0) ((rd_T44 l1 (ji18)).f1) ((rd_T44 l1 (ji18)).f2) ((rd_T44 l1 (ji18)).f3)) else (quoinref11_May.j1 kj4 a2 t222 (decide ((wrap64 ((((rd_T44 l1 (ji18)).f2).length : Int) - a0_1)) < t218)) a0_0 a0_1 a0_2 a0_3 a0_4 ((rd_T44 l1 (ji18)).f0) ((rd_T44 l1 (ji18)).f1) ((rd_T44 l1 (ji18)).f2) ((rd_T44 l1 (ji18)).f3)))) = some r := H
      have A21 := Aside0.mk A210
      clear A210
      have HC22 := Aside0.mk H
      clear H
      have hcz23_0 : wc.cell? ⟨gb217, 0, none⟩ = some (.int .i64 a0_0) := (blk_cell BK217.out 0).trans rfl
      have hcz23_1 : wc.cell? ⟨gb217, 1, none⟩ = some (.int .i64 a0_1) := (blk_cell BK217.out 1).trans rfl
      have hcz23_2 : wc.cell? ⟨gb217, 2, none⟩ = some (.int .u8 a0_2) := (blk_cell BK217.out 2).trans rfl
      have hcz23_3 : wc.cell? ⟨gb217, 3, none⟩ = some (.int .i64 a0_3) := (blk_cell BK217.out 3).trans rfl
      have hcz23_4 : wc.cell? ⟨gb217, 4, none⟩ = some (.int .i64 a0_4) := (blk_cell BK217.out 4).trans rfl
      have hfz23_0 := blk_frozen BK217.out 0
      have hfz23_1 := blk_frozen BK217.out 1
      have hfz23_2 := blk_frozen BK217.out 2
      have hfz23_3 := blk_frozen BK217.out 3
      have hfz23_4 := blk_frozen BK217.out 4
      have p220 : 0 ≤ ((ji18) : Int) := of_decide_eq_true (by first | (with_reducible assumption) | assumption)
      have q220 : (ji18) < (l1.length : Int) := of_decide_eq_true (by first | (with_reducible assumption) | assumption)
      obtain ⟨ad220, A220_2, c220_2, e220, hx220_0, hx220_1, hx220_2, hx220_3, hl220_2, hi220_2⟩ := at_T44 HR1.out (ji18) p220 q220
      cases e220
      replace hx220_0 := (HB.out.cell (World.block_lt_of_cell? w _ hx220_0)).trans hx220_0
      replace hx220_1 := (HB.out.cell (World.block_lt_of_cell? w _ hx220_1)).trans hx220_1
      replace hx220_2 := (HB.out.cell (World.block_lt_of_cell? w _ hx220_2)).trans hx220_2
      replace hx220_3 := (HB.out.cell (World.block_lt_of_cell? w _ hx220_3)).trans hx220_3
      have HR220_2 := Aside0.mk hi220_2
      have HC220_2 := Aside0.mk hl220_2
      clear hi220_2 hl220_2
      replace p220 := eq_true p220
      replace q220 := eq_true q220
      go_upto_region 6 with (first | ((with_reducible refine gate_dst (N := 8) rfl ?_); (try (refine gate_guard (by rfl) ?_; dsimp only)); refine box_event ?hg (N := 8) ?hd (cs := #[.string (⟨#[]⟩ : ByteArray), .int .i64 0, .slice none 0 0, .int .i64 0]) (t := 44) ?hr ?_; (case hd => rfl); (case hg => rfl); (case hr => first | (go_simp; done) | (go_simp; rfl)); intro gb221 hg w24 hbox hb; have n0_ := Aside0.mk (blk_below (g := gb217) (o := .cells #[.int .i64 a0_0, .int .i64 a0_1, .int .u8 a0_2, .int .i64 a0_3, .int .i64 a0_4] 23 (0, 0)) (by (with_reducible repeat (first | refine blk_drewN ?_ _ | refine blk_drew ?_ | refine blk_alloc ?_ _)); exact BK217.out) hb); have n1_ := Aside0.mk (below_step (by repeat (first | (with_reducible first | exact HB.out | apply below_alloc | apply pw_below_drewN | apply below_drew1 | refine below_set ?_ GE217.out) | exact HB.out)) hb); have n2_ := Aside0.mk (hbox); have n3_ := Aside0.mk ((by rw [hg]; exact (below_size (by repeat (first | (with_reducible first | exact HB.out | apply below_alloc | apply pw_below_drewN | apply below_drew1 | refine below_set ?_ GE217.out) | exact HB.out))) : w.heap.size ≤ gb221)); have n4_ := Aside0.mk ((by rw [hg]; exact (below_size (by repeat (first | (with_reducible first | exact HB.out | apply below_alloc | apply pw_below_drewN | apply below_drew1 | refine below_set ?_ GE217.out) | exact HB.out))) : w.heap.size ≤ gb221)); have n5_ := Aside0.mk ((by rw [hg]; exact Nat.ne_of_lt (blk_lt (g := gb217) (o := .cells #[.int .i64 a0_0, .int .i64 a0_1, .int .u8 a0_2, .int .i64 a0_3, .int .i64 a0_4] 23 (0, 0)) (by (with_reducible repeat (first | refine blk_drewN ?_ _ | refine blk_drew ?_ | refine blk_alloc ?_ _)); exact BK217.out)) : gb217 ≠ gb221)); have n6_ := Aside0.mk ((by rw [hg]; exact Nat.ne_of_gt (blk_lt (g := gb217) (o := .cells #[.int .i64 a0_0, .int .i64 a0_1, .int .u8 a0_2, .int .i64 a0_3, .int .i64 a0_4] 23 (0, 0)) (by (with_reducible repeat (first | refine blk_drewN ?_ _ | refine blk_drew ?_ | refine blk_alloc ?_ _)); exact BK217.out)) : gb221 ≠ gb217)); clear BK217; clear HB; have BK217 := n0_; have HB := n1_; have BK221 := n2_; have GW221 := n3_; have GE221 := n4_; have NB217_221 := n5_; have NB221_217 := n6_; clear n0_ n1_ n2_ n3_ n4_ n5_ n6_; clear hb hbox hg; have hnb25 := NB221_217.out; have hnc25 := NB217_221.out; have hcz26_0 : w24.cell? ⟨gb221, 0, none⟩ = some (.string (⟨#[]⟩ : ByteArray)) := (blk_cell BK221.out 0).trans rfl; have hcz26_1 : w24.cell? ⟨gb221, 1, none⟩ = some (.int .i64 0) := (blk_cell BK221.out 1).trans rfl; have hcz26_2 : w24.cell? ⟨gb221, 2, none⟩ = some (.slice none 0 0) := (blk_cell BK221.out 2).trans rfl; have hcz26_3 : w24.cell? ⟨gb221, 3, none⟩ = some (.int .i64 0) := (blk_cell BK221.out 3).trans rfl; have hfz26_0 := blk_frozen BK221.out 0; have hfz26_1 := blk_frozen BK221.out 1; have hfz26_2 := blk_frozen BK221.out 2; have hfz26_3 := blk_frozen BK221.out 3) | ((with_reducible refine gate_callee (f := 29) rfl ?_); refine goesL_ (some 46) rfl rfl Try.func29 (by kernel_rfl) rfl #[.string ((rd_T44 l1 (ji18)).f0)] rfl (by (try simp only [List.map_toArray, List.map_cons, List.map_nil]); first | done | (simp only [hji18]; rfl) | rfl | (simp only [List.length_drop, List.length_take]; rfl)) ?_; (with_reducible refine (quoinref09_Of.calls kj4 ((rd_T44 l1 (ji18)).f0) t222 _ A21.out).mono ?_); rintro e w27 ⟨rfl, hb⟩; refine ⟨_, rfl, ?_⟩; have n0_ := Aside0.mk (blk_below (g := gb217) (o := .cells #[.int .i64 a0_0, .int .i64 a0_1, .int .u8 a0_2, .int .i64 a0_3, .int .i64 a0_4] 23 (0, 0)) (by (with_reducible repeat (first | refine blk_drewN ?_ _ | refine blk_drew ?_ | refine blk_alloc ?_ _)); refine blk_far ?_ NB217_221.out _; (with_reducible repeat (first | refine blk_drewN ?_ _ | refine blk_drew ?_ | refine blk_alloc ?_ _)); refine blk_far ?_ NB217_221.out _; (with_reducible repeat (first | refine blk_drewN ?_ _ | refine blk_drew ?_ | refine blk_alloc ?_ _)); refine blk_far ?_ NB217_221.out _; (with_reducible repeat (first | refine blk_drewN ?_ _ | refine blk_drew ?_ | refine blk_alloc ?_ _)); refine blk_far ?_ NB217_221.out _; (with_reducible repeat (first | refine blk_drewN ?_ _ | refine blk_drew ?_ | refine blk_alloc ?_ _)); exact BK217.out) hb); have n1_ := Aside0.mk (blk_below (g := gb221) (o := .cells #[.string ((rd_T44 l1 (ji18)).f0), .int .i64 ((rd_T44 l1 (ji18)).f1), .slice A220_2 ((rd_T44 l1 (ji18)).f2).length c220_2, .int .i64 ((rd_T44 l1 (ji18)).f3)] 44 (0, 0)) (by (with_reducible repeat (first | refine blk_drewN ?_ _ | refine blk_drew ?_ | refine blk_alloc ?_ _)); refine blk_put (cs := #[.string ((rd_T44 l1 (ji18)).f0), .int .i64 ((rd_T44 l1 (ji18)).f1), .slice A220_2 ((rd_T44 l1 (ji18)).f2).length c220_2, .int .i64 0]) ?_ 3 _ rfl; (with_reducible repeat (first | refine blk_drewN ?_ _ | refine blk_drew ?_ | refine blk_alloc ?_ _)); refine blk_put (cs := #[.string ((rd_T44 l1 (ji18)).f0), .int .i64 ((rd_T44 l1 (ji18)).f1), .slice none 0 0, .int .i64 0]) ?_ 2 _ rfl; (with_reducible repeat (first | refine blk_drewN ?_ _ | refine blk_drew ?_ | refine blk_alloc ?_ _)); refine blk_put (cs := #[.string ((rd_T44 l1 (ji18)).f0), .int .i64 0, .slice none 0 0, .int .i64 0]) ?_ 1 _ rfl; (with_reducible repeat (first | refine blk_drewN ?_ _ | refine blk_drew ?_ | refine blk_alloc ?_ _)); refine blk_put (cs := #[.string (⟨#[]⟩ : ByteArray), .int .i64 0, .slice none 0 0, .int .i64 0]) ?_ 0 _ rfl; (with_reducible repeat (first | refine blk_drewN ?_ _ | refine blk_drew ?_ | refine blk_alloc ?_ _)); exact BK221.out) hb); have n2_ := Aside0.mk (below_step (by repeat (first | (with_reducible first | exact HB.out | apply below_alloc | apply pw_below_drewN | apply below_drew1 | refine below_set ?_ GE217.out | refine below_set ?_ GE221.out) | exact HB.out)) hb); clear BK217; clear BK221; clear HB; have BK217 := n0_; have BK221 := n1_; have HB := n2_; clear n0_ n1_ n2_; (try clear hb); (try clear hb2); (try clear hk); (try clear hi)))
      (try simp only [Act.put, List.setIfInBounds_toArray, List.set_cons_zero, List.set_cons_succ])
      go_cut [66] (fun v66 wc => ∃ (kq : Nat) (x66_21 : Bool), v66 = .bool x66_21 ∧ Aside0 (quoinref11_May.j1 kq a2 t222 x66_21 a0_0 a0_1 a0_2 a0_3 a0_4 ((rd_T44 l1 (ji18)).f0) ((rd_T44 l1 (ji18)).f1) ((rd_T44 l1 (ji18)).f2) ((rd_T44 l1 (ji18)).f3) = some r) ∧ Aside0 (kq ≤ kj4) ∧ Aside0 (wc.heap[gb217]? = some (.cells #[.int .i64 a0_0, .int .i64 a0_1, .int .u8 a0_2, .int .i64 a0_3, .int .i64 a0_4] 23 (0, 0))) ∧ Aside0 (wc.heap[gb221]? = some (.cells #[.string ((rd_T44 l1 (ji18)).f0), .int .i64 ((rd_T44 l1 (ji18)).f1), (.slice A220_2 ((rd_T44 l1 (ji18)).f2).length c220_2), .int .i64 ((rd_T44 l1 (ji18)).f3)] 44 (0, 0))) ∧ Aside0 (Below w.heap.size w wc))
      case first =>
       have H := HC22.out
       clear HC22
       by_cases c28 : t222 = 4
       ·
        rw [if_pos c28] at H
        have c28b0 : (t222 == 4) = true := beq_iff_eq.mpr c28
        have c28b1 : (t222 != 4) = false := bne_eq_false_iff_eq.mpr c28
        clear c28
        (first | rw [c28b0] | (simp only [i64_w, i32_w]; rw [c28b0]) | skip)
        have H' := Aside0.mk H
        clear H
        go_wp2
        go_meet
        case rel => exact ⟨_, (true), (by first | rfl | (simp; done) | (simp [*]; done)), H', ⟨by have := HJ4.out; first | omega | exact Nat.le_refl _⟩, ⟨by (with_reducible repeat (first | refine blk_drewN ?_ _ | refine blk_drew ?_ | refine blk_alloc ?_ _)); exact BK217.out⟩, ⟨by (with_reducible repeat (first | refine blk_drewN ?_ _ | refine blk_drew ?_ | refine blk_alloc ?_ _)); exact BK221.out⟩, ⟨by repeat (first | (with_reducible first | exact HB.out | apply below_alloc | apply pw_below_drewN | apply below_drew1 | refine below_set ?_ GE217.out | refine below_set ?_ GE221.out) | exact HB.out)⟩⟩
       ·
        rw [if_neg c28] at H
        have c28b0 : (t222 == 4) = false := beq_eq_false_iff_ne.mpr c28
        have c28b1 : (t222 != 4) = true := bne_iff_ne.mpr c28
        (first | rw [c28b0] | (simp only [i64_w, i32_w]; rw [c28b0]) | skip)
        by_cases c29 : a0_1 > (((rd_T44 l1 (ji18)).f2).length : Int)
        ·
         rw [if_pos c29] at H
         have c29b0 : decide ((((rd_T44 l1 (ji18)).f2).length : Int) < a0_1) = true := decide_eq_true c29
         clear c29
         have H' := Aside0.mk H
         clear H
         have hnb30 := NB217_221.out
         have hnc30 := NB221_217.out
         have hcz31_0 : w27.cell? ⟨gb217, 0, none⟩ = some (.int .i64 a0_0) := (blk_cell BK217.out 0).trans rfl
         have hcz31_1 : w27.cell? ⟨gb217, 1, none⟩ = some (.int .i64 a0_1) := (blk_cell BK217.out 1).trans rfl
         have hcz31_2 : w27.cell? ⟨gb217, 2, none⟩ = some (.int .u8 a0_2) := (blk_cell BK217.out 2).trans rfl
         have hcz31_3 : w27.cell? ⟨gb217, 3, none⟩ = some (.int .i64 a0_3) := (blk_cell BK217.out 3).trans rfl
         have hcz31_4 : w27.cell? ⟨gb217, 4, none⟩ = some (.int .i64 a0_4) := (blk_cell BK217.out 4).trans rfl
         have hfz31_0 := blk_frozen BK217.out 0
         have hfz31_1 := blk_frozen BK217.out 1
         have hfz31_2 := blk_frozen BK217.out 2
         have hfz31_3 := blk_frozen BK217.out 3
         have hfz31_4 := blk_frozen BK217.out 4
         have hcz32_0 : w27.cell? ⟨gb221, 0, none⟩ = some (.string ((rd_T44 l1 (ji18)).f0)) := (blk_cell BK221.out 0).trans rfl
         have hcz32_1 : w27.cell? ⟨gb221, 1, none⟩ = some (.int .i64 ((rd_T44 l1 (ji18)).f1)) := (blk_cell BK221.out 1).trans rfl
         have hcz32_2 : w27.cell? ⟨gb221, 2, none⟩ = some (.slice A220_2 ((rd_T44 l1 (ji18)).f2).length c220_2) := (blk_cell BK221.out 2).trans rfl
         have hcz32_3 : w27.cell? ⟨gb221, 3, none⟩ = some (.int .i64 ((rd_T44 l1 (ji18)).f3)) := (blk_cell BK221.out 3).trans rfl
         have hfz32_0 := blk_frozen BK221.out 0
         have hfz32_1 := blk_frozen BK221.out 1
         have hfz32_2 := blk_frozen BK221.out 2
         have hfz32_3 := blk_frozen BK221.out 3
         go_wp2
         go_meet
         case rel => exact ⟨_, (true), (by first | rfl | (simp; done) | (simp [*]; done)), H', ⟨by have := HJ4.out; first | omega | exact Nat.le_refl _⟩, ⟨by (with_reducible repeat (first | refine blk_drewN ?_ _ | refine blk_drew ?_ | refine blk_alloc ?_ _)); exact BK217.out⟩, ⟨by (with_reducible repeat (first | refine blk_drewN ?_ _ | refine blk_drew ?_ | refine blk_alloc ?_ _)); exact BK221.out⟩, ⟨by repeat (first | (with_reducible first | exact HB.out | apply below_alloc | apply pw_below_drewN | apply below_drew1 | refine below_set ?_ GE217.out | refine below_set ?_ GE221.out) | exact HB.out)⟩⟩
        ·
         rw [if_neg c29] at H
         have c29b0 : decide ((((rd_T44 l1 (ji18)).f2).length : Int) < a0_1) = false := decide_eq_false c29
         clear c29
         have H' := Aside0.mk H
         clear H
         have hnb33 := NB217_221.out
         have hnc33 := NB221_217.out
         have hcz34_0 : w27.cell? ⟨gb217, 0, none⟩ = some (.int .i64 a0_0) := (blk_cell BK217.out 0).trans rfl
         have hcz34_1 : w27.cell? ⟨gb217, 1, none⟩ = some (.int .i64 a0_1) := (blk_cell BK217.out 1).trans rfl
         have hcz34_2 : w27.cell? ⟨gb217, 2, none⟩ = some (.int .u8 a0_2) := (blk_cell BK217.out 2).trans rfl
         have hcz34_3 : w27.cell? ⟨gb217, 3, none⟩ = some (.int .i64 a0_3) := (blk_cell BK217.out 3).trans rfl
         have hcz34_4 : w27.cell? ⟨gb217, 4, none⟩ = some (.int .i64 a0_4) := (blk_cell BK217.out 4).trans rfl
         have hfz34_0 := blk_frozen BK217.out 0
         have hfz34_1 := blk_frozen BK217.out 1
         have hfz34_2 := blk_frozen BK217.out 2
         have hfz34_3 := blk_frozen BK217.out 3
         have hfz34_4 := blk_frozen BK217.out 4
         have hcz35_0 : w27.cell? ⟨gb221, 0, none⟩ = some (.string ((rd_T44 l1 (ji18)).f0)) := (blk_cell BK221.out 0).trans rfl
         have hcz35_1 : w27.cell? ⟨gb221, 1, none⟩ = some (.int .i64 ((rd_T44 l1 (ji18)).f1)) := (blk_cell BK221.out 1).trans rfl
         have hcz35_2 : w27.cell? ⟨gb221, 2, none⟩ = some (.slice A220_2 ((rd_T44 l1 (ji18)).f2).length c220_2) := (blk_cell BK221.out 2).trans rfl
         have hcz35_3 : w27.cell? ⟨gb221, 3, none⟩ = some (.int .i64 ((rd_T44 l1 (ji18)).f3)) := (blk_cell BK221.out 3).trans rfl
         have hfz35_0 := blk_frozen BK221.out 0
         have hfz35_1 := blk_frozen BK221.out 1
         have hfz35_2 := blk_frozen BK221.out 2
         have hfz35_3 := blk_frozen BK221.out 3
         go_wp2
         go_meet
         case rel => exact ⟨_, (decide ((wrap64 ((((rd_T44 l1 (ji18)).f2).length : Int) - a0_1)) < t218)), (by first | rfl | (simp; done) | (simp only [← hji18] <;> (first | rfl | simp)) | (simp [*]; done)), H', ⟨by have := HJ4.out; first | omega | exact Nat.le_refl _⟩, ⟨by (with_reducible repeat (first | refine blk_drewN ?_ _ | refine blk_drew ?_ | refine blk_alloc ?_ _)); exact BK217.out⟩, ⟨by (with_reducible repeat (first | refine blk_drewN ?_ _ | refine blk_drew ?_ | refine blk_alloc ?_ _)); exact BK221.out⟩, ⟨by repeat (first | (with_reducible first | exact HB.out | apply below_alloc | apply pw_below_drewN | apply below_drew1 | refine below_set ?_ GE217.out | refine below_set ?_ GE221.out) | exact HB.out)⟩⟩
      case rest =>
       clear HC22
       try clear c1
       try clear c2
       try clear p2
       try clear q2
       try clear hx2
       try clear c3
       try clear p6
       try clear c8
       try clear c8b0
       try clear c9
       try clear c9b0
       try clear c11
       try clear c11b0
       try clear c13
       try clear c13b0
       try clear c17
       try clear c19
       try clear c19b0
       try clear c20
       try clear c20b0
       try clear c22
       try clear p22
       try clear q22
       try clear hx22
       try clear c25
       try clear c28
       try clear c28b0
       try clear c28b1
       try clear c29
       try clear c29b0
       try clear c30
       try clear c33
       try clear hcz10_0
       try clear hcz10_1
       try clear hcz10_2
       try clear hcz10_3
       try clear hcz10_4
       try clear hcz12_0
       try clear hcz12_1
       try clear hcz12_2
       try clear hcz12_3
       try clear hcz12_4
       try clear hcz14_0
       try clear hcz14_1
       try clear hcz14_2
       try clear hcz14_3
       try clear hcz14_4
       try clear hcz16_0
       try clear hcz16_1
       try clear hcz16_2
       try clear hcz16_3
       try clear hcz16_4
       try clear hcz23_0
       try clear hcz23_1
       try clear hcz23_2
       try clear hcz23_3
       try clear hcz23_4
       try clear hcz26_0
       try clear hcz26_1
       try clear hcz26_2
       try clear hcz26_3
       try clear hcz31_0
       try clear hcz31_1
       try clear hcz31_2
       try clear hcz31_3
       try clear hcz31_4
       try clear hcz32_0
       try clear hcz32_1
       try clear hcz32_2
       try clear hcz32_3
       try clear hcz34_0
       try clear hcz34_1
       try clear hcz34_2
       try clear hcz34_3
       try clear hcz34_4
       try clear hcz35_0
       try clear hcz35_1
       try clear hcz35_2
       try clear hcz35_3
       try clear hcz7_0
       try clear hcz7_1
       try clear hcz7_2
       try clear hcz7_3
       try clear hcz7_4
       try clear hfz10_0
       try clear hfz10_1
       try clear hfz10_2
       try clear hfz10_3
       try clear hfz10_4
       try clear hfz12_0
       try clear hfz12_1
       try clear hfz12_2
       try clear hfz12_3
       try clear hfz12_4
       try clear hfz14_0
       try clear hfz14_1
       try clear hfz14_2
       try clear hfz14_3
       try clear hfz14_4
       try clear hfz16_0
       try clear hfz16_1
       try clear hfz16_2
       try clear hfz16_3
       try clear hfz16_4
       try clear hfz23_0
       try clear hfz23_1
       try clear hfz23_2
       try clear hfz23_3
       try clear hfz23_4
       try clear hfz26_0
       try clear hfz26_1
       try clear hfz26_2
       try clear hfz26_3
       try clear hfz31_0
       try clear hfz31_1
       try clear hfz31_2
       try clear hfz31_3
       try clear hfz31_4
       try clear hfz32_0
       try clear hfz32_1
       try clear hfz32_2
       try clear hfz32_3
       try clear hfz34_0
       try clear hfz34_1
       try clear hfz34_2
       try clear hfz34_3
       try clear hfz34_4
       try clear hfz35_0
       try clear hfz35_1
       try clear hfz35_2
       try clear hfz35_3
       try clear hfz7_0
       try clear hfz7_1
       try clear hfz7_2
       try clear hfz7_3
       try clear hfz7_4
       try clear hx220_0
       try clear hx220_1
       try clear hx220_2
       try clear hx220_3
       try clear p2
       try clear p220
       try clear q220
       obtain ⟨kq, x66_21, rfl, HA, HJ21, BK217, BK221, HB⟩ := hcut
       cases kq with
       | zero => exact absurd HA.out (by simp [quoinref11_May.j1])
       | succ kj21 =>
        have H := HA.out
        clear HA
        simp only [quoinref11_May.j1] at H
        by_cases c36 : x66_21 = true
        ·
         subst c36
         have H1 : (some false) = some r := by rw [if_pos rfl] at H; exact H
         clear H
         have H := H1
         clear H1
         obtain rfl := Option.some.inj H
         go_wp2
         go_ret
         exact ⟨by first | rfl | (simp [errW_none, errW_some] <;> rfl) | (simp only [← hji18]; first | rfl | (simp [errW_none, errW_some] <;> rfl)) | (simp [*, errW_none, errW_some] <;> rfl), by repeat (first | (with_reducible first | exact HB.out | apply below_alloc | apply pw_below_drewN | apply below_drew1 | refine below_set ?_ GE217.out | refine below_set ?_ GE221.out) | exact HB.out)⟩
        ·
         replace c36 := Bool.eq_false_iff.mpr c36
         subst c36
         have H1 : ((quoinref11_Plain.f a0_2).bind fun t223 => (if t223 = true then (quoinref11_May.j2 kj21 a2 false a0_0 a0_1 a0_2 a0_3 a0_4 ((rd_T44 l1 (ji18)).f0) ((rd_T44 l1 (ji18)).f1) ((rd_T44 l1 (ji18)).f2) ((rd_T44 l1 (ji18)).f3)) else (if t222 = 1 then (quoinref11_May.j2 kj21 a2 ((Int.tmod a0_1 2) != 0) a0_0 a0_1 a0_2 a0_3 a0_4 ((rd_T44 l1 (ji18)).f0) ((rd_T44 l1 (ji18)).f1) ((rd_T44 l1 (ji18)).f2) ((rd_T44 l1 (ji18)).f3)) else (quoinref11_May.j2 kj21 a2 true a0_0 a0_1 a0_2 a0_3 a0_4 ((rd_T44 l1 (ji18)).f0) ((rd_T44 l1 (ji18)).f1) ((rd_T44 l1 (ji18)).f2) ((rd_T44 l1 (ji18)).f3))))) = some r := by rw [if_neg (show ¬ (false = true) by decide)] at H; exact H
         clear H
         have H := H1
         clear H1
         have HC37 := Aside0.mk H
         clear H
         go_upto_region 8 with (fail)
         go_cut [80] (fun v80 wc => ∃ (kq : Nat) (x80_36 : Bool), v80 = .bool x80_36 ∧ Aside0 (quoinref11_May.j2 kq a2 x80_36 a0_0 a0_1 a0_2 a0_3 a0_4 ((rd_T44 l1 (ji18)).f0) ((rd_T44 l1 (ji18)).f1) ((rd_T44 l1 (ji18)).f2) ((rd_T44 l1 (ji18)).f3) = some r) ∧ Aside0 (kq ≤ kj21) ∧ Aside0 (wc.heap[gb217]? = some (.cells #[.int .i64 a0_0, .int .i64 a0_1, .int .u8 a0_2, .int .i64 a0_3, .int .i64 a0_4] 23 (0, 0))) ∧ Aside0 (wc.heap[gb221]? = some (.cells #[.string ((rd_T44 l1 (ji18)).f0), .int .i64 ((rd_T44 l1 (ji18)).f1), (.slice A220_2 ((rd_T44 l1 (ji18)).f2).length c220_2), .int .i64 ((rd_T44 l1 (ji18)).f3)] 44 (0, 0))) ∧ Aside0 (Below w.heap.size w wc))
         case first =>
          have H := HC37.out
          clear HC37
          replace H := Option.bind_eq_some_iff.mp H
          obtain ⟨t223, A380, H⟩ := H
          replace H : (if t223 = true then (quoinref11_May.j2 kj21 a2 false a0_0 a0_1 a0_2 a0_3 a0_4 ((rd_T44 l1 (ji18)).f0) ((rd_T44 l1 (ji18)).f1) ((rd_T44 l1 (ji18)).f2) ((rd_T44 l1 (ji18)).f3)) else (if t222 = 1 then (quoinref11_May.j2 kj21 a2 ((Int.tmod a0_1 2) != 0) a0_0 a0_1 a0_2 a0_3 a0_4 ((rd_T44 l1 (ji18)).f0) ((rd_T44 l1 (ji18)).f1) ((rd_T44 l1 (ji18)).f2) ((rd_T44 l1 (ji18)).f3)) else (quoinref11_May.j2 kj21 a2 true a0_0 a0_1 a0_2 a0_3 a0_4 ((rd_T44 l1 (ji18)).f0) ((rd_T44 l1 (ji18)).f1) ((rd_T44 l1 (ji18)).f2) ((rd_T44 l1 (ji18)).f3)))) = some r := H
          have A38 := Aside0.mk A380
          clear A380
          by_cases c39 : t223 = true
          ·
           subst c39
           have H1 : (quoinref11_May.j2 kj21 a2 false a0_0 a0_1 a0_2 a0_3 a0_4 ((rd_T44 l1 (ji18)).f0) ((rd_T44 l1 (ji18)).f1) ((rd_T44 l1 (ji18)).f2) ((rd_T44 l1 (ji18)).f3)) = some r := by rw [if_pos rfl] at H; exact H
           clear H
           have H := H1
           clear H1
           have H' := Aside0.mk H
           clear H
           have hnb40 := NB217_221.out
           have hnc40 := NB221_217.out
           have hcz41_0 : wc.cell? ⟨gb217, 0, none⟩ = some (.int .i64 a0_0) := (blk_cell BK217.out 0).trans rfl
           have hcz41_1 : wc.cell? ⟨gb217, 1, none⟩ = some (.int .i64 a0_1) := (blk_cell BK217.out 1).trans rfl
           have hcz41_2 : wc.cell? ⟨gb217, 2, none⟩ = some (.int .u8 a0_2) := (blk_cell BK217.out 2).trans rfl
           have hcz41_3 : wc.cell? ⟨gb217, 3, none⟩ = some (.int .i64 a0_3) := (blk_cell BK217.out 3).trans rfl
           have hcz41_4 : wc.cell? ⟨gb217, 4, none⟩ = some (.int .i64 a0_4) := (blk_cell BK217.out 4).trans rfl
           have hfz41_0 := blk_frozen BK217.out 0
           have hfz41_1 := blk_frozen BK217.out 1
           have hfz41_2 := blk_frozen BK217.out 2
           have hfz41_3 := blk_frozen BK217.out 3
           have hfz41_4 := blk_frozen BK217.out 4
           go_wp2_with (first | ((with_reducible refine gate_callee (f := 31) rfl ?_); refine goesL_ (some 69) rfl rfl Try.func31 (by kernel_rfl) rfl #[.int .u8 a0_2] rfl (by (try simp only [List.map_toArray, List.map_cons, List.map_nil]); first | done | rfl | (simp only [List.length_drop, List.length_take]; rfl)) ?_; (with_reducible refine (quoinref11_Plain.calls a0_2 true _ A38.out).mono ?_); rintro e w' ⟨rfl, ⟨nd, rfl⟩⟩; refine ⟨_, rfl, ?_⟩))
           go_meet
           case rel => exact ⟨_, (false), (by first | rfl | (simp; done) | (simp [*]; done)), H', ⟨by have := HJ4.out; have := HJ21.out; first | omega | exact Nat.le_refl _⟩, ⟨by (with_reducible repeat (first | refine blk_drewN ?_ _ | refine blk_drew ?_ | refine blk_alloc ?_ _)); exact BK217.out⟩, ⟨by (with_reducible repeat (first | refine blk_drewN ?_ _ | refine blk_drew ?_ | refine blk_alloc ?_ _)); exact BK221.out⟩, ⟨by repeat (first | (with_reducible first | exact HB.out | apply below_alloc | apply pw_below_drewN | apply below_drew1 | refine below_set ?_ GE217.out | refine below_set ?_ GE221.out) | exact HB.out)⟩⟩
          ·
           replace c39 := Bool.eq_false_iff.mpr c39
           subst c39
           have H1 : (if t222 = 1 then (quoinref11_May.j2 kj21 a2 ((Int.tmod a0_1 2) != 0) a0_0 a0_1 a0_2 a0_3 a0_4 ((rd_T44 l1 (ji18)).f0) ((rd_T44 l1 (ji18)).f1) ((rd_T44 l1 (ji18)).f2) ((rd_T44 l1 (ji18)).f3)) else (quoinref11_May.j2 kj21 a2 true a0_0 a0_1 a0_2 a0_3 a0_4 ((rd_T44 l1 (ji18)).f0) ((rd_T44 l1 (ji18)).f1) ((rd_T44 l1 (ji18)).f2) ((rd_T44 l1 (ji18)).f3))) = some r := by rw [if_neg (show ¬ (false = true) by decide)] at H; exact H
           clear H
           have H := H1
           clear H1
           by_cases c42 : t222 = 1
           ·
            rw [if_pos c42] at H
            have c42b0 : (t222 == 1) = true := beq_iff_eq.mpr c42
            have c42b1 : (t222 != 1) = false := bne_eq_false_iff_eq.mpr c42
            clear c42
            (first | rw [c42b0] | (simp only [i64_w, i32_w]; rw [c42b0]) | skip)
            have H' := Aside0.mk H
            clear H
            have hnb43 := NB217_221.out
            have hnc43 := NB221_217.out
            have hcz44_0 : wc.cell? ⟨gb217, 0, none⟩ = some (.int .i64 a0_0) := (blk_cell BK217.out 0).trans rfl
            have hcz44_1 : wc.cell? ⟨gb217, 1, none⟩ = some (.int .i64 a0_1) := (blk_cell BK217.out 1).trans rfl
            have hcz44_2 : wc.cell? ⟨gb217, 2, none⟩ = some (.int .u8 a0_2) := (blk_cell BK217.out 2).trans rfl
            have hcz44_3 : wc.cell? ⟨gb217, 3, none⟩ = some (.int .i64 a0_3) := (blk_cell BK217.out 3).trans rfl
            have hcz44_4 : wc.cell? ⟨gb217, 4, none⟩ = some (.int .i64 a0_4) := (blk_cell BK217.out 4).trans rfl
            have hfz44_0 := blk_frozen BK217.out 0
            have hfz44_1 := blk_frozen BK217.out 1
            have hfz44_2 := blk_frozen BK217.out 2
            have hfz44_3 := blk_frozen BK217.out 3
            have hfz44_4 := blk_frozen BK217.out 4
            go_wp2_with (first | ((with_reducible refine gate_callee (f := 31) rfl ?_); refine goesL_ (some 69) rfl rfl Try.func31 (by kernel_rfl) rfl #[.int .u8 a0_2] rfl (by (try simp only [List.map_toArray, List.map_cons, List.map_nil]); first | done | rfl | (simp only [List.length_drop, List.length_take]; rfl)) ?_; (with_reducible refine (quoinref11_Plain.calls a0_2 false _ A38.out).mono ?_); rintro e w' ⟨rfl, ⟨nd, rfl⟩⟩; refine ⟨_, rfl, ?_⟩))
            go_meet
            case rel => exact ⟨_, (((Int.tmod a0_1 2) != 0)), (by first | rfl | (simp; done) | (simp [*]; done)), H', ⟨by have := HJ4.out; have := HJ21.out; first | omega | exact Nat.le_refl _⟩, ⟨by (with_reducible repeat (first | refine blk_drewN ?_ _ | refine blk_drew ?_ | refine blk_alloc ?_ _)); exact BK217.out⟩, ⟨by (with_reducible repeat (first | refine blk_drewN ?_ _ | refine blk_drew ?_ | refine blk_alloc ?_ _)); exact BK221.out⟩, ⟨by repeat (first | (with_reducible first | exact HB.out | apply below_alloc | apply pw_below_drewN | apply below_drew1 | refine below_set ?_ GE217.out | refine below_set ?_ GE221.out) | exact HB.out)⟩⟩
           ·
            rw [if_neg c42] at H
            have c42b0 : (t222 == 1) = false := beq_eq_false_iff_ne.mpr c42
            have c42b1 : (t222 != 1) = true := bne_iff_ne.mpr c42
            (first | rw [c42b0] | (simp only [i64_w, i32_w]; rw [c42b0]) | skip)
            have H' := Aside0.mk H
            clear H
            have hnb45 := NB217_221.out
            have hnc45 := NB221_217.out
            have hcz46_0 : wc.cell? ⟨gb217, 0, none⟩ = some (.int .i64 a0_0) := (blk_cell BK217.out 0).trans rfl
            have hcz46_1 : wc.cell? ⟨gb217, 1, none⟩ = some (.int .i64 a0_1) := (blk_cell BK217.out 1).trans rfl
            have hcz46_2 : wc.cell? ⟨gb217, 2, none⟩ = some (.int .u8 a0_2) := (blk_cell BK217.out 2).trans rfl
            have hcz46_3 : wc.cell? ⟨gb217, 3, none⟩ = some (.int .i64 a0_3) := (blk_cell BK217.out 3).trans rfl
            have hcz46_4 : wc.cell? ⟨gb217, 4, none⟩ = some (.int .i64 a0_4) := (blk_cell BK217.out 4).trans rfl
            have hfz46_0 := blk_frozen BK217.out 0
            have hfz46_1 := blk_frozen BK217.out 1
            have hfz46_2 := blk_frozen BK217.out 2
            have hfz46_3 := blk_frozen BK217.out 3
            have hfz46_4 := blk_frozen BK217.out 4
            go_wp2_with (first | ((with_reducible refine gate_callee (f := 31) rfl ?_); refine goesL_ (some 69) rfl rfl Try.func31 (by kernel_rfl) rfl #[.int .u8 a0_2] rfl (by (try simp only [List.map_toArray, List.map_cons, List.map_nil]); first | done | rfl | (simp only [List.length_drop, List.length_take]; rfl)) ?_; (with_reducible refine (quoinref11_Plain.calls a0_2 false _ A38.out).mono ?_); rintro e w' ⟨rfl, ⟨nd, rfl⟩⟩; refine ⟨_, rfl, ?_⟩))
            go_meet
            case rel => exact ⟨_, (true), (by first | rfl | (simp; done) | (simp [*]; done)), H', ⟨by have := HJ4.out; have := HJ21.out; first | omega | exact Nat.le_refl _⟩, ⟨by (with_reducible repeat (first | refine blk_drewN ?_ _ | refine blk_drew ?_ | refine blk_alloc ?_ _)); exact BK217.out⟩, ⟨by (with_reducible repeat (first | refine blk_drewN ?_ _ | refine blk_drew ?_ | refine blk_alloc ?_ _)); exact BK221.out⟩, ⟨by repeat (first | (with_reducible first | exact HB.out | apply below_alloc | apply pw_below_drewN | apply below_drew1 | refine below_set ?_ GE217.out | refine below_set ?_ GE221.out) | exact HB.out)⟩⟩
         case rest =>
          clear HC37
          try clear c1
          try clear c2
          try clear p2
          try clear q2
          try clear hx2
          try clear c3
          try clear c4
          try clear p6
          try clear c8
          try clear c8b0
          try clear c9
          try clear c9b0
          try clear c11
          try clear c11b0
          try clear c13
          try clear c13b0
          try clear c17
          try clear c19
          try clear c19b0
          try clear c20
          try clear c20b0
          try clear c22
          try clear p22
          try clear q22
          try clear hx22
          try clear c25
          try clear c28
          try clear c28b0
          try clear c28b1
          try clear c29
          try clear c29b0
          try clear c30
          try clear c31
          try clear c33
          try clear c36
          try clear c39
          try clear c40
          try clear c42
          try clear c42b0
          try clear c42b1
          try clear c43
          try clear c45
          try clear hcz10_0
          try clear hcz10_1
          try clear hcz10_2
          try clear hcz10_3
          try clear hcz10_4
          try clear hcz12_0
          try clear hcz12_1
          try clear hcz12_2
          try clear hcz12_3
          try clear hcz12_4
          try clear hcz14_0
          try clear hcz14_1
          try clear hcz14_2
          try clear hcz14_3
          try clear hcz14_4
          try clear hcz16_0
          try clear hcz16_1
          try clear hcz16_2
          try clear hcz16_3
          try clear hcz16_4
          try clear hcz23_0
          try clear hcz23_1
          try clear hcz23_2
          try clear hcz23_3
          try clear hcz23_4
          try clear hcz26_0
          try clear hcz26_1
          try clear hcz26_2
          try clear hcz26_3
          try clear hcz31_0
          try clear hcz31_1
          try clear hcz31_2
          try clear hcz31_3
          try clear hcz31_4
          try clear hcz32_0
          try clear hcz32_1
          try clear hcz32_2
          try clear hcz32_3
          try clear hcz34_0
          try clear hcz34_1
          try clear hcz34_2
          try clear hcz34_3
          try clear hcz34_4
          try clear hcz35_0
          try clear hcz35_1
          try clear hcz35_2
          try clear hcz35_3
          try clear hcz41_0
          try clear hcz41_1
          try clear hcz41_2
          try clear hcz41_3
          try clear hcz41_4
          try clear hcz44_0
          try clear hcz44_1
          try clear hcz44_2
          try clear hcz44_3
          try clear hcz44_4
          try clear hcz46_0
          try clear hcz46_1
          try clear hcz46_2
          try clear hcz46_3
          try clear hcz46_4
          try clear hcz7_0
          try clear hcz7_1
          try clear hcz7_2
          try clear hcz7_3
          try clear hcz7_4
          try clear hfz10_0
          try clear hfz10_1
          try clear hfz10_2
          try clear hfz10_3
          try clear hfz10_4
          try clear hfz12_0
          try clear hfz12_1
          try clear hfz12_2
          try clear hfz12_3
          try clear hfz12_4
          try clear hfz14_0
          try clear hfz14_1
          try clear hfz14_2
          try clear hfz14_3
          try clear hfz14_4
          try clear hfz16_0
          try clear hfz16_1
          try clear hfz16_2
          try clear hfz16_3
          try clear hfz16_4
          try clear hfz23_0
          try clear hfz23_1
          try clear hfz23_2
          try clear hfz23_3
          try clear hfz23_4
          try clear hfz26_0
          try clear hfz26_1
          try clear hfz26_2
          try clear hfz26_3
          try clear hfz31_0
          try clear hfz31_1
          try clear hfz31_2
          try clear hfz31_3
          try clear hfz31_4
          try clear hfz32_0
          try clear hfz32_1
          try clear hfz32_2
          try clear hfz32_3
          try clear hfz34_0
          try clear hfz34_1
          try clear hfz34_2
          try clear hfz34_3
          try clear hfz34_4
          try clear hfz35_0
          try clear hfz35_1
          try clear hfz35_2
          try clear hfz35_3
          try clear hfz41_0
          try clear hfz41_1
          try clear hfz41_2
          try clear hfz41_3
          try clear hfz41_4
          try clear hfz44_0
          try clear hfz44_1
          try clear hfz44_2
          try clear hfz44_3
          try clear hfz44_4
          try clear hfz46_0
          try clear hfz46_1
          try clear hfz46_2
          try clear hfz46_3
          try clear hfz46_4
          try clear hfz7_0
          try clear hfz7_1
          try clear hfz7_2
          try clear hfz7_3
          try clear hfz7_4
          try clear hx220_0
          try clear hx220_1
          try clear hx220_2
          try clear hx220_3
          try clear p2
          try clear p22
          try clear p220
          try clear p6
          try clear q2
          try clear q22
          try clear q220
          obtain ⟨kq, x80_36, rfl, HA, HJ36, BK217, BK221, HB⟩ := hcut
          cases kq with
          | zero => exact absurd HA.out (by simp [quoinref11_May.j2])
          | succ kj36 =>
           have H := HA.out
           clear HA
           simp only [quoinref11_May.j2] at H
           by_cases c47 : x80_36 = true
           ·
            subst c47
            have H1 : (some false) = some r := by rw [if_pos rfl] at H; exact H
            clear H
            have H := H1
            clear H1
            obtain rfl := Option.some.inj H
            go_wp2
            go_ret
            exact ⟨by first | rfl | (simp [errW_none, errW_some] <;> rfl) | (simp only [← hji18]; first | rfl | (simp [errW_none, errW_some] <;> rfl)) | (simp [*, errW_none, errW_some] <;> rfl), by repeat (first | (with_reducible first | exact HB.out | apply below_alloc | apply pw_below_drewN | apply below_drew1 | refine below_set ?_ GE217.out | refine below_set ?_ GE221.out) | exact HB.out)⟩
           ·
            replace c47 := Bool.eq_false_iff.mpr c47
            subst c47
            have H1 : (if a0_2 = 51 then (if a0_3 = (-1) then (some (a0_4 == 0)) else (some false)) else (if a0_2 = 43 then (if a0_3 = (-1) then (if a0_4 ≥ 0 then (if a0_4 ≤ 62 then (if (Int.tmod a0_4 2) = 0 then (some (decide ((wrap64 ((((rd_T44 l1 (ji18)).f2).length : Int) - a0_1)) ≥ a0_4))) else (some false)) else (some false)) else (some false)) else (some false)) else (if a0_2 = 24 then (quoinref11_May.j3 kj36 a2 (a0_2 == 24) a0_0 a0_1 a0_2 a0_3 a0_4) else (quoinref11_May.j3 kj36 a2 (a0_2 == 25) a0_0 a0_1 a0_2 a0_3 a0_4)))) = some r := by rw [if_neg (show ¬ (false = true) by decide)] at H; exact H
            clear H
            have H := H1
            clear H1
            by_cases c48 : a0_2 = 51
            ·
             rw [if_pos c48] at H
             have c48b0 : (a0_2 == 51) = true := beq_iff_eq.mpr c48
             have c48b1 : (a0_2 != 51) = false := bne_eq_false_iff_eq.mpr c48
             clear c48
             by_cases c49 : a0_3 = (-1)
             ·
              rw [if_pos c49] at H
              have c49b0 : (a0_3 == (-1)) = true := beq_iff_eq.mpr c49
              have c49b1 : (a0_3 != (-1)) = false := bne_eq_false_iff_eq.mpr c49
              clear c49
              obtain rfl := Option.some.inj H
              have hnb50 := NB217_221.out
              have hnc50 := NB221_217.out
              have hcz51_0 : wc.cell? ⟨gb217, 0, none⟩ = some (.int .i64 a0_0) := (blk_cell BK217.out 0).trans rfl
              have hcz51_1 : wc.cell? ⟨gb217, 1, none⟩ = some (.int .i64 a0_1) := (blk_cell BK217.out 1).trans rfl
              have hcz51_2 : wc.cell? ⟨gb217, 2, none⟩ = some (.int .u8 a0_2) := (blk_cell BK217.out 2).trans rfl
              have hcz51_3 : wc.cell? ⟨gb217, 3, none⟩ = some (.int .i64 a0_3) := (blk_cell BK217.out 3).trans rfl
              have hcz51_4 : wc.cell? ⟨gb217, 4, none⟩ = some (.int .i64 a0_4) := (blk_cell BK217.out 4).trans rfl
              have hfz51_0 := blk_frozen BK217.out 0
              have hfz51_1 := blk_frozen BK217.out 1
              have hfz51_2 := blk_frozen BK217.out 2
              have hfz51_3 := blk_frozen BK217.out 3
              have hfz51_4 := blk_frozen BK217.out 4
              go_wp2
              go_ret
              exact ⟨by first | rfl | (simp [errW_none, errW_some] <;> rfl) | (simp only [← hji18]; first | rfl | (simp [errW_none, errW_some] <;> rfl)) | (simp [*, errW_none, errW_some] <;> rfl), by repeat (first | (with_reducible first | exact HB.out | apply below_alloc | apply pw_below_drewN | apply below_drew1 | refine below_set ?_ GE217.out | refine below_set ?_ GE221.out) | exact HB.out)⟩
             ·
              rw [if_neg c49] at H
              have c49b0 : (a0_3 == (-1)) = false := beq_eq_false_iff_ne.mpr c49
              have c49b1 : (a0_3 != (-1)) = true := bne_iff_ne.mpr c49
              obtain rfl := Option.some.inj H
              have hnb52 := NB217_221.out
              have hnc52 := NB221_217.out
              have hcz53_0 : wc.cell? ⟨gb217, 0, none⟩ = some (.int .i64 a0_0) := (blk_cell BK217.out 0).trans rfl
              have hcz53_1 : wc.cell? ⟨gb217, 1, none⟩ = some (.int .i64 a0_1) := (blk_cell BK217.out 1).trans rfl
              have hcz53_2 : wc.cell? ⟨gb217, 2, none⟩ = some (.int .u8 a0_2) := (blk_cell BK217.out 2).trans rfl
              have hcz53_3 : wc.cell? ⟨gb217, 3, none⟩ = some (.int .i64 a0_3) := (blk_cell BK217.out 3).trans rfl
              have hcz53_4 : wc.cell? ⟨gb217, 4, none⟩ = some (.int .i64 a0_4) := (blk_cell BK217.out 4).trans rfl
              have hfz53_0 := blk_frozen BK217.out 0
              have hfz53_1 := blk_frozen BK217.out 1
              have hfz53_2 := blk_frozen BK217.out 2
              have hfz53_3 := blk_frozen BK217.out 3
              have hfz53_4 := blk_frozen BK217.out 4
              go_wp2
              go_ret
              exact ⟨by first | rfl | (simp [errW_none, errW_some] <;> rfl) | (simp only [← hji18]; first | rfl | (simp [errW_none, errW_some] <;> rfl)) | (simp [*, errW_none, errW_some] <;> rfl), by repeat (first | (with_reducible first | exact HB.out | apply below_alloc | apply pw_below_drewN | apply below_drew1 | refine below_set ?_ GE217.out | refine below_set ?_ GE221.out) | exact HB.out)⟩
            ·
             rw [if_neg c48] at H
             have c48b0 : (a0_2 == 51) = false := beq_eq_false_iff_ne.mpr c48
             have c48b1 : (a0_2 != 51) = true := bne_iff_ne.mpr c48
             by_cases c54 : a0_2 = 43
             ·
              rw [if_pos c54] at H
              have c54b0 : (a0_2 == 43) = true := beq_iff_eq.mpr c54
              have c54b1 : (a0_2 != 43) = false := bne_eq_false_iff_eq.mpr c54
              clear c54
              by_cases c55 : a0_3 = (-1)
              ·
               rw [if_pos c55] at H
               have c55b0 : (a0_3 == (-1)) = true := beq_iff_eq.mpr c55
               have c55b1 : (a0_3 != (-1)) = false := bne_eq_false_iff_eq.mpr c55
               clear c55
               by_cases c56 : a0_4 ≥ 0
               ·
                rw [if_pos c56] at H
                have c56b0 : decide (0 ≤ a0_4) = true := decide_eq_true c56
                clear c56
                by_cases c57 : a0_4 ≤ 62
                ·
                 rw [if_pos c57] at H
                 have c57b0 : decide (a0_4 ≤ 62) = true := decide_eq_true c57
                 clear c57
                 by_cases c58 : (Int.tmod a0_4 2) = 0
                 ·
                  rw [if_pos c58] at H
                  have c58b0 : ((Int.tmod a0_4 2) == 0) = true := beq_iff_eq.mpr c58
                  have c58b1 : ((Int.tmod a0_4 2) != 0) = false := bne_eq_false_iff_eq.mpr c58
                  clear c58
                  obtain rfl := Option.some.inj H
                  have hnb59 := NB217_221.out
                  have hnc59 := NB221_217.out
                  have hcz60_0 : wc.cell? ⟨gb217, 0, none⟩ = some (.int .i64 a0_0) := (blk_cell BK217.out 0).trans rfl
                  have hcz60_1 : wc.cell? ⟨gb217, 1, none⟩ = some (.int .i64 a0_1) := (blk_cell BK217.out 1).trans rfl
                  have hcz60_2 : wc.cell? ⟨gb217, 2, none⟩ = some (.int .u8 a0_2) := (blk_cell BK217.out 2).trans rfl
                  have hcz60_3 : wc.cell? ⟨gb217, 3, none⟩ = some (.int .i64 a0_3) := (blk_cell BK217.out 3).trans rfl
                  have hcz60_4 : wc.cell? ⟨gb217, 4, none⟩ = some (.int .i64 a0_4) := (blk_cell BK217.out 4).trans rfl
                  have hfz60_0 := blk_frozen BK217.out 0
                  have hfz60_1 := blk_frozen BK217.out 1
                  have hfz60_2 := blk_frozen BK217.out 2
                  have hfz60_3 := blk_frozen BK217.out 3
                  have hfz60_4 := blk_frozen BK217.out 4
                  have hcz61_0 : wc.cell? ⟨gb221, 0, none⟩ = some (.string ((rd_T44 l1 (ji18)).f0)) := (blk_cell BK221.out 0).trans rfl
                  have hcz61_1 : wc.cell? ⟨gb221, 1, none⟩ = some (.int .i64 ((rd_T44 l1 (ji18)).f1)) := (blk_cell BK221.out 1).trans rfl
                  have hcz61_2 : wc.cell? ⟨gb221, 2, none⟩ = some (.slice A220_2 ((rd_T44 l1 (ji18)).f2).length c220_2) := (blk_cell BK221.out 2).trans rfl
                  have hcz61_3 : wc.cell? ⟨gb221, 3, none⟩ = some (.int .i64 ((rd_T44 l1 (ji18)).f3)) := (blk_cell BK221.out 3).trans rfl
                  have hfz61_0 := blk_frozen BK221.out 0
                  have hfz61_1 := blk_frozen BK221.out 1
                  have hfz61_2 := blk_frozen BK221.out 2
                  have hfz61_3 := blk_frozen BK221.out 3
                  go_wp2
                  go_ret
                  exact ⟨by first | rfl | (simp [errW_none, errW_some] <;> rfl) | (simp only [← hji18]; first | rfl | (simp [errW_none, errW_some] <;> rfl)) | (simp [*, errW_none, errW_some] <;> rfl), by repeat (first | (with_reducible first | exact HB.out | apply below_alloc | apply pw_below_drewN | apply below_drew1 | refine below_set ?_ GE217.out | refine below_set ?_ GE221.out) | exact HB.out)⟩
                 ·
                  rw [if_neg c58] at H
                  have c58b0 : ((Int.tmod a0_4 2) == 0) = false := beq_eq_false_iff_ne.mpr c58
                  have c58b1 : ((Int.tmod a0_4 2) != 0) = true := bne_iff_ne.mpr c58
                  obtain rfl := Option.some.inj H
                  have hnb62 := NB217_221.out
                  have hnc62 := NB221_217.out
                  have hcz63_0 : wc.cell? ⟨gb217, 0, none⟩ = some (.int .i64 a0_0) := (blk_cell BK217.out 0).trans rfl
                  have hcz63_1 : wc.cell? ⟨gb217, 1, none⟩ = some (.int .i64 a0_1) := (blk_cell BK217.out 1).trans rfl
                  have hcz63_2 : wc.cell? ⟨gb217, 2, none⟩ = some (.int .u8 a0_2) := (blk_cell BK217.out 2).trans rfl
                  have hcz63_3 : wc.cell? ⟨gb217, 3, none⟩ = some (.int .i64 a0_3) := (blk_cell BK217.out 3).trans rfl
                  have hcz63_4 : wc.cell? ⟨gb217, 4, none⟩ = some (.int .i64 a0_4) := (blk_cell BK217.out 4).trans rfl
                  have hfz63_0 := blk_frozen BK217.out 0
                  have hfz63_1 := blk_frozen BK217.out 1
                  have hfz63_2 := blk_frozen BK217.out 2
                  have hfz63_3 := blk_frozen BK217.out 3
                  have hfz63_4 := blk_frozen BK217.out 4
                  go_wp2
                  go_ret
                  exact ⟨by first | rfl | (simp [errW_none, errW_some] <;> rfl) | (simp only [← hji18]; first | rfl | (simp [errW_none, errW_some] <;> rfl)) | (simp [*, errW_none, errW_some] <;> rfl), by repeat (first | (with_reducible first | exact HB.out | apply below_alloc | apply pw_below_drewN | apply below_drew1 | refine below_set ?_ GE217.out | refine below_set ?_ GE221.out) | exact HB.out)⟩
                ·
                 rw [if_neg c57] at H
                 have c57b0 : decide (a0_4 ≤ 62) = false := decide_eq_false c57
                 clear c57
                 obtain rfl := Option.some.inj H
                 have hnb64 := NB217_221.out
                 have hnc64 := NB221_217.out
                 have hcz65_0 : wc.cell? ⟨gb217, 0, none⟩ = some (.int .i64 a0_0) := (blk_cell BK217.out 0).trans rfl
                 have hcz65_1 : wc.cell? ⟨gb217, 1, none⟩ = some (.int .i64 a0_1) := (blk_cell BK217.out 1).trans rfl
                 have hcz65_2 : wc.cell? ⟨gb217, 2, none⟩ = some (.int .u8 a0_2) := (blk_cell BK217.out 2).trans rfl
                 have hcz65_3 : wc.cell? ⟨gb217, 3, none⟩ = some (.int .i64 a0_3) := (blk_cell BK217.out 3).trans rfl
                 have hcz65_4 : wc.cell? ⟨gb217, 4, none⟩ = some (.int .i64 a0_4) := (blk_cell BK217.out 4).trans rfl
                 have hfz65_0 := blk_frozen BK217.out 0
                 have hfz65_1 := blk_frozen BK217.out 1
                 have hfz65_2 := blk_frozen BK217.out 2
                 have hfz65_3 := blk_frozen BK217.out 3
                 have hfz65_4 := blk_frozen BK217.out 4
                 go_wp2
                 go_ret
                 exact ⟨by first | rfl | (simp [errW_none, errW_some] <;> rfl) | (simp only [← hji18]; first | rfl | (simp [errW_none, errW_some] <;> rfl)) | (simp [*, errW_none, errW_some] <;> rfl), by repeat (first | (with_reducible first | exact HB.out | apply below_alloc | apply pw_below_drewN | apply below_drew1 | refine below_set ?_ GE217.out | refine below_set ?_ GE221.out) | exact HB.out)⟩
               ·
                rw [if_neg c56] at H
                have c56b0 : decide (0 ≤ a0_4) = false := decide_eq_false c56
                clear c56
                obtain rfl := Option.some.inj H
                have hnb66 := NB217_221.out
                have hnc66 := NB221_217.out
                have hcz67_0 : wc.cell? ⟨gb217, 0, none⟩ = some (.int .i64 a0_0) := (blk_cell BK217.out 0).trans rfl
                have hcz67_1 : wc.cell? ⟨gb217, 1, none⟩ = some (.int .i64 a0_1) := (blk_cell BK217.out 1).trans rfl
                have hcz67_2 : wc.cell? ⟨gb217, 2, none⟩ = some (.int .u8 a0_2) := (blk_cell BK217.out 2).trans rfl
                have hcz67_3 : wc.cell? ⟨gb217, 3, none⟩ = some (.int .i64 a0_3) := (blk_cell BK217.out 3).trans rfl
                have hcz67_4 : wc.cell? ⟨gb217, 4, none⟩ = some (.int .i64 a0_4) := (blk_cell BK217.out 4).trans rfl
                have hfz67_0 := blk_frozen BK217.out 0
                have hfz67_1 := blk_frozen BK217.out 1
                have hfz67_2 := blk_frozen BK217.out 2
                have hfz67_3 := blk_frozen BK217.out 3
                have hfz67_4 := blk_frozen BK217.out 4
                go_wp2
                go_ret
                exact ⟨by first | rfl | (simp [errW_none, errW_some] <;> rfl) | (simp only [← hji18]; first | rfl | (simp [errW_none, errW_some] <;> rfl)) | (simp [*, errW_none, errW_some] <;> rfl), by repeat (first | (with_reducible first | exact HB.out | apply below_alloc | apply pw_below_drewN | apply below_drew1 | refine below_set ?_ GE217.out | refine below_set ?_ GE221.out) | exact HB.out)⟩
              ·
               rw [if_neg c55] at H
               have c55b0 : (a0_3 == (-1)) = false := beq_eq_false_iff_ne.mpr c55
               have c55b1 : (a0_3 != (-1)) = true := bne_iff_ne.mpr c55
               obtain rfl := Option.some.inj H
               have hnb68 := NB217_221.out
               have hnc68 := NB221_217.out
               have hcz69_0 : wc.cell? ⟨gb217, 0, none⟩ = some (.int .i64 a0_0) := (blk_cell BK217.out 0).trans rfl
               have hcz69_1 : wc.cell? ⟨gb217, 1, none⟩ = some (.int .i64 a0_1) := (blk_cell BK217.out 1).trans rfl
               have hcz69_2 : wc.cell? ⟨gb217, 2, none⟩ = some (.int .u8 a0_2) := (blk_cell BK217.out 2).trans rfl
               have hcz69_3 : wc.cell? ⟨gb217, 3, none⟩ = some (.int .i64 a0_3) := (blk_cell BK217.out 3).trans rfl
               have hcz69_4 : wc.cell? ⟨gb217, 4, none⟩ = some (.int .i64 a0_4) := (blk_cell BK217.out 4).trans rfl
               have hfz69_0 := blk_frozen BK217.out 0
               have hfz69_1 := blk_frozen BK217.out 1
               have hfz69_2 := blk_frozen BK217.out 2
               have hfz69_3 := blk_frozen BK217.out 3
               have hfz69_4 := blk_frozen BK217.out 4
               go_wp2
               go_ret
               exact ⟨by first | rfl | (simp [errW_none, errW_some] <;> rfl) | (simp only [← hji18]; first | rfl | (simp [errW_none, errW_some] <;> rfl)) | (simp [*, errW_none, errW_some] <;> rfl), by repeat (first | (with_reducible first | exact HB.out | apply below_alloc | apply pw_below_drewN | apply below_drew1 | refine below_set ?_ GE217.out | refine below_set ?_ GE221.out) | exact HB.out)⟩
             ·
              rw [if_neg c54] at H
              have c54b0 : (a0_2 == 43) = false := beq_eq_false_iff_ne.mpr c54
              have c54b1 : (a0_2 != 43) = true := bne_iff_ne.mpr c54
              have HC70 := Aside0.mk H
              clear H
              have hnb71 := NB217_221.out
              have hnc71 := NB221_217.out
              have hcz72_0 : wc.cell? ⟨gb217, 0, none⟩ = some (.int .i64 a0_0) := (blk_cell BK217.out 0).trans rfl
              have hcz72_1 : wc.cell? ⟨gb217, 1, none⟩ = some (.int .i64 a0_1) := (blk_cell BK217.out 1).trans rfl
              have hcz72_2 : wc.cell? ⟨gb217, 2, none⟩ = some (.int .u8 a0_2) := (blk_cell BK217.out 2).trans rfl
              have hcz72_3 : wc.cell? ⟨gb217, 3, none⟩ = some (.int .i64 a0_3) := (blk_cell BK217.out 3).trans rfl
              have hcz72_4 : wc.cell? ⟨gb217, 4, none⟩ = some (.int .i64 a0_4) := (blk_cell BK217.out 4).trans rfl
              have hfz72_0 := blk_frozen BK217.out 0
              have hfz72_1 := blk_frozen BK217.out 1
              have hfz72_2 := blk_frozen BK217.out 2
              have hfz72_3 := blk_frozen BK217.out 3
              have hfz72_4 := blk_frozen BK217.out 4
              go_upto_if 125 with (fail)
              go_cut [125] (fun v125 wc => ∃ (kq : Nat) (x125_69 : Bool), v125 = .bool x125_69 ∧ Aside0 (quoinref11_May.j3 kq a2 x125_69 a0_0 a0_1 a0_2 a0_3 a0_4 = some r) ∧ Aside0 (kq ≤ kj36) ∧ Aside0 (wc.heap[gb217]? = some (.cells #[.int .i64 a0_0, .int .i64 a0_1, .int .u8 a0_2, .int .i64 a0_3, .int .i64 a0_4] 23 (0, 0))) ∧ Aside0 (wc.heap[gb221]? = some (.cells #[.string ((rd_T44 l1 (ji18)).f0), .int .i64 ((rd_T44 l1 (ji18)).f1), (.slice A220_2 ((rd_T44 l1 (ji18)).f2).length c220_2), .int .i64 ((rd_T44 l1 (ji18)).f3)] 44 (0, 0))) ∧ Aside0 (Below w.heap.size w wc))
              case first =>
               have H := HC70.out
               clear HC70
               by_cases c73 : a0_2 = 24
               ·
                rw [if_pos c73] at H
                have c73b0 : (a0_2 == 24) = true := beq_iff_eq.mpr c73
                have c73b1 : (a0_2 != 24) = false := bne_eq_false_iff_eq.mpr c73
                clear c73
                (first | rw [c73b0] | (simp only [i64_w, i32_w]; rw [c73b0]) | skip)
                have H' := Aside0.mk H
                clear H
                go_wp2
                go_meet
                case rel => exact ⟨_, ((a0_2 == 24)), (by first | rfl | (simp; done) | (simp [*]; done)), H', ⟨by have := HJ4.out; have := HJ21.out; have := HJ36.out; first | omega | exact Nat.le_refl _⟩, ⟨by (with_reducible repeat (first | refine blk_drewN ?_ _ | refine blk_drew ?_ | refine blk_alloc ?_ _)); exact BK217.out⟩, ⟨by (with_reducible repeat (first | refine blk_drewN ?_ _ | refine blk_drew ?_ | refine blk_alloc ?_ _)); exact BK221.out⟩, ⟨by repeat (first | (with_reducible first | exact HB.out | apply below_alloc | apply pw_below_drewN | apply below_drew1 | refine below_set ?_ GE217.out | refine below_set ?_ GE221.out) | exact HB.out)⟩⟩
               ·
                rw [if_neg c73] at H
                have c73b0 : (a0_2 == 24) = false := beq_eq_false_iff_ne.mpr c73
                have c73b1 : (a0_2 != 24) = true := bne_iff_ne.mpr c73
                (first | rw [c73b0] | (simp only [i64_w, i32_w]; rw [c73b0]) | skip)
                have H' := Aside0.mk H
                clear H
                go_wp2
                go_meet
                case rel => exact ⟨_, ((a0_2 == 25)), (by first | rfl | (simp; done) | (simp [*]; done)), H', ⟨by have := HJ4.out; have := HJ21.out; have := HJ36.out; first | omega | exact Nat.le_refl _⟩, ⟨by (with_reducible repeat (first | refine blk_drewN ?_ _ | refine blk_drew ?_ | refine blk_alloc ?_ _)); exact BK217.out⟩, ⟨by (with_reducible repeat (first | refine blk_drewN ?_ _ | refine blk_drew ?_ | refine blk_alloc ?_ _)); exact BK221.out⟩, ⟨by repeat (first | (with_reducible first | exact HB.out | apply below_alloc | apply pw_below_drewN | apply below_drew1 | refine below_set ?_ GE217.out | refine below_set ?_ GE221.out) | exact HB.out)⟩⟩
              case rest =>
               clear HC70
               try clear c1
               try clear c2
               try clear p2
               try clear q2
               try clear hx2
               try clear c3
               try clear c4
               try clear c5
               try clear c6
               try clear p6
               try clear c7
               try clear c8
               try clear c8b0
               try clear c9
               try clear c9b0
               try clear c11
               try clear c11b0
               try clear c13
               try clear c13b0
               try clear c17
               try clear c19
               try clear c19b0
               try clear c20
               try clear c20b0
               try clear c22
               try clear p22
               try clear q22
               try clear hx22
               try clear c25
               try clear c28
               try clear c28b0
               try clear c28b1
               try clear c29
               try clear c29b0
               try clear c30
               try clear c31
               try clear c33
               try clear c36
               try clear c39
               try clear c40
               try clear c42
               try clear c42b0
               try clear c42b1
               try clear c43
               try clear c45
               try clear c47
               try clear c48
               try clear c48b0
               try clear c48b1
               try clear c49
               try clear c49b0
               try clear c49b1
               try clear c50
               try clear c52
               try clear c54
               try clear c54b0
               try clear c54b1
               try clear c55
               try clear c55b0
               try clear c55b1
               try clear c56
               try clear c56b0
               try clear c57
               try clear c57b0
               try clear c58
               try clear c58b0
               try clear c58b1
               try clear c59
               try clear c62
               try clear c64
               try clear p64
               try clear c66
               try clear c68
               try clear c71
               try clear c73
               try clear c73b0
               try clear c73b1
               try clear hcz10_0
               try clear hcz10_1
               try clear hcz10_2
               try clear hcz10_3
               try clear hcz10_4
               try clear hcz12_0
               try clear hcz12_1
               try clear hcz12_2
               try clear hcz12_3
               try clear hcz12_4
               try clear hcz14_0
               try clear hcz14_1
               try clear hcz14_2
               try clear hcz14_3
               try clear hcz14_4
               try clear hcz16_0
               try clear hcz16_1
               try clear hcz16_2
               try clear hcz16_3
               try clear hcz16_4
               try clear hcz23_0
               try clear hcz23_1
               try clear hcz23_2
               try clear hcz23_3
               try clear hcz23_4
               try clear hcz26_0
               try clear hcz26_1
               try clear hcz26_2
               try clear hcz26_3
               try clear hcz31_0
               try clear hcz31_1
               try clear hcz31_2
               try clear hcz31_3
               try clear hcz31_4
               try clear hcz32_0
               try clear hcz32_1
               try clear hcz32_2
               try clear hcz32_3
               try clear hcz34_0
               try clear hcz34_1
               try clear hcz34_2
               try clear hcz34_3
               try clear hcz34_4
               try clear hcz35_0
               try clear hcz35_1
               try clear hcz35_2
               try clear hcz35_3
               try clear hcz41_0
               try clear hcz41_1
               try clear hcz41_2
               try clear hcz41_3
               try clear hcz41_4
               try clear hcz44_0
               try clear hcz44_1
               try clear hcz44_2
               try clear hcz44_3
               try clear hcz44_4
               try clear hcz46_0
               try clear hcz46_1
               try clear hcz46_2
               try clear hcz46_3
               try clear hcz46_4
               try clear hcz51_0
               try clear hcz51_1
               try clear hcz51_2
               try clear hcz51_3
               try clear hcz51_4
               try clear hcz53_0
               try clear hcz53_1
               try clear hcz53_2
               try clear hcz53_3
               try clear hcz53_4
               try clear hcz60_0
               try clear hcz60_1
               try clear hcz60_2
               try clear hcz60_3
               try clear hcz60_4
               try clear hcz61_0
               try clear hcz61_1
               try clear hcz61_2
               try clear hcz61_3
               try clear hcz63_0
               try clear hcz63_1
               try clear hcz63_2
               try clear hcz63_3
               try clear hcz63_4
               try clear hcz65_0
               try clear hcz65_1
               try clear hcz65_2
               try clear hcz65_3
               try clear hcz65_4
               try clear hcz67_0
               try clear hcz67_1
               try clear hcz67_2
               try clear hcz67_3
               try clear hcz67_4
               try clear hcz69_0
               try clear hcz69_1
               try clear hcz69_2
               try clear hcz69_3
               try clear hcz69_4
               try clear hcz72_0
               try clear hcz72_1
               try clear hcz72_2
               try clear hcz72_3
               try clear hcz72_4
               try clear hcz7_0
               try clear hcz7_1
               try clear hcz7_2
               try clear hcz7_3
               try clear hcz7_4
               try clear hfz10_0
               try clear hfz10_1
               try clear hfz10_2
               try clear hfz10_3
               try clear hfz10_4
               try clear hfz12_0
               try clear hfz12_1
               try clear hfz12_2
               try clear hfz12_3
               try clear hfz12_4
               try clear hfz14_0
               try clear hfz14_1
               try clear hfz14_2
               try clear hfz14_3
               try clear hfz14_4
               try clear hfz16_0
               try clear hfz16_1
               try clear hfz16_2
               try clear hfz16_3
               try clear hfz16_4
               try clear hfz23_0
               try clear hfz23_1
               try clear hfz23_2
               try clear hfz23_3
               try clear hfz23_4
               try clear hfz26_0
               try clear hfz26_1
               try clear hfz26_2
               try clear hfz26_3
               try clear hfz31_0
               try clear hfz31_1
               try clear hfz31_2
               try clear hfz31_3
               try clear hfz31_4
               try clear hfz32_0
               try clear hfz32_1
               try clear hfz32_2
               try clear hfz32_3
               try clear hfz34_0
               try clear hfz34_1
               try clear hfz34_2
               try clear hfz34_3
               try clear hfz34_4
               try clear hfz35_0
               try clear hfz35_1
               try clear hfz35_2
               try clear hfz35_3
               try clear hfz41_0
               try clear hfz41_1
               try clear hfz41_2
               try clear hfz41_3
               try clear hfz41_4
               try clear hfz44_0
               try clear hfz44_1
               try clear hfz44_2
               try clear hfz44_3
               try clear hfz44_4
               try clear hfz46_0
               try clear hfz46_1
               try clear hfz46_2
               try clear hfz46_3
               try clear hfz46_4
               try clear hfz51_0
               try clear hfz51_1
               try clear hfz51_2
               try clear hfz51_3
               try clear hfz51_4
               try clear hfz53_0
               try clear hfz53_1
               try clear hfz53_2
               try clear hfz53_3
               try clear hfz53_4
               try clear hfz60_0
               try clear hfz60_1
               try clear hfz60_2
               try clear hfz60_3
               try clear hfz60_4
               try clear hfz61_0
               try clear hfz61_1
               try clear hfz61_2
               try clear hfz61_3
               try clear hfz63_0
               try clear hfz63_1
               try clear hfz63_2
               try clear hfz63_3
               try clear hfz63_4
               try clear hfz65_0
               try clear hfz65_1
               try clear hfz65_2
               try clear hfz65_3
               try clear hfz65_4
               try clear hfz67_0
               try clear hfz67_1
               try clear hfz67_2
               try clear hfz67_3
               try clear hfz67_4
               try clear hfz69_0
               try clear hfz69_1
               try clear hfz69_2
               try clear hfz69_3
               try clear hfz69_4
               try clear hfz72_0
               try clear hfz72_1
               try clear hfz72_2
               try clear hfz72_3
               try clear hfz72_4
               try clear hfz7_0
               try clear hfz7_1
               try clear hfz7_2
               try clear hfz7_3
               try clear hfz7_4
               try clear hx220_0
               try clear hx220_1
               try clear hx220_2
               try clear hx220_3
               try clear p2
               try clear p22
               try clear p220
               try clear p6
               try clear q2
               try clear q22
               try clear q220
               obtain ⟨kq, x125_69, rfl, HA, HJ69, BK217, BK221, HB⟩ := hcut
               cases kq with
               | zero => exact absurd HA.out (by simp [quoinref11_May.j3])
               | succ kj69 =>
                have H := HA.out
                clear HA
                simp only [quoinref11_May.j3] at H
                by_cases c74 : x125_69 = true
                ·
                 subst c74
                 have H1 : (if a0_4 = 0 then (if a0_3 ≥ 0 then (some (decide (a0_3 < a2))) else (some false)) else (some false)) = some r := by rw [if_pos rfl] at H; exact H
                 clear H
                 have H := H1
                 clear H1
                 by_cases c75 : a0_4 = 0
                 ·
                  rw [if_pos c75] at H
                  have c75b0 : (a0_4 == 0) = true := beq_iff_eq.mpr c75
                  have c75b1 : (a0_4 != 0) = false := bne_eq_false_iff_eq.mpr c75
                  clear c75
                  by_cases c76 : a0_3 ≥ 0
                  ·
                   rw [if_pos c76] at H
                   have c76b0 : decide (0 ≤ a0_3) = true := decide_eq_true c76
                   clear c76
                   obtain rfl := Option.some.inj H
                   have hnb77 := NB217_221.out
                   have hnc77 := NB221_217.out
                   have hcz78_0 : wc.cell? ⟨gb217, 0, none⟩ = some (.int .i64 a0_0) := (blk_cell BK217.out 0).trans rfl
                   have hcz78_1 : wc.cell? ⟨gb217, 1, none⟩ = some (.int .i64 a0_1) := (blk_cell BK217.out 1).trans rfl
                   have hcz78_2 : wc.cell? ⟨gb217, 2, none⟩ = some (.int .u8 a0_2) := (blk_cell BK217.out 2).trans rfl
                   have hcz78_3 : wc.cell? ⟨gb217, 3, none⟩ = some (.int .i64 a0_3) := (blk_cell BK217.out 3).trans rfl
                   have hcz78_4 : wc.cell? ⟨gb217, 4, none⟩ = some (.int .i64 a0_4) := (blk_cell BK217.out 4).trans rfl
                   have hfz78_0 := blk_frozen BK217.out 0
                   have hfz78_1 := blk_frozen BK217.out 1
                   have hfz78_2 := blk_frozen BK217.out 2
                   have hfz78_3 := blk_frozen BK217.out 3
                   have hfz78_4 := blk_frozen BK217.out 4
                   go_wp2
                   go_ret
                   exact ⟨by first | rfl | (simp [errW_none, errW_some] <;> rfl) | (simp only [← hji18]; first | rfl | (simp [errW_none, errW_some] <;> rfl)) | (simp [*, errW_none, errW_some] <;> rfl), by repeat (first | (with_reducible first | exact HB.out | apply below_alloc | apply pw_below_drewN | apply below_drew1 | refine below_set ?_ GE217.out | refine below_set ?_ GE221.out) | exact HB.out)⟩
                  ·
                   rw [if_neg c76] at H
                   have c76b0 : decide (0 ≤ a0_3) = false := decide_eq_false c76
                   clear c76
                   obtain rfl := Option.some.inj H
                   have hnb79 := NB217_221.out
                   have hnc79 := NB221_217.out
                   have hcz80_0 : wc.cell? ⟨gb217, 0, none⟩ = some (.int .i64 a0_0) := (blk_cell BK217.out 0).trans rfl
                   have hcz80_1 : wc.cell? ⟨gb217, 1, none⟩ = some (.int .i64 a0_1) := (blk_cell BK217.out 1).trans rfl
                   have hcz80_2 : wc.cell? ⟨gb217, 2, none⟩ = some (.int .u8 a0_2) := (blk_cell BK217.out 2).trans rfl
                   have hcz80_3 : wc.cell? ⟨gb217, 3, none⟩ = some (.int .i64 a0_3) := (blk_cell BK217.out 3).trans rfl
                   have hcz80_4 : wc.cell? ⟨gb217, 4, none⟩ = some (.int .i64 a0_4) := (blk_cell BK217.out 4).trans rfl
                   have hfz80_0 := blk_frozen BK217.out 0
                   have hfz80_1 := blk_frozen BK217.out 1
                   have hfz80_2 := blk_frozen BK217.out 2
                   have hfz80_3 := blk_frozen BK217.out 3
                   have hfz80_4 := blk_frozen BK217.out 4
                   go_wp2
                   go_ret
                   exact ⟨by first | rfl | (simp [errW_none, errW_some] <;> rfl) | (simp only [← hji18]; first | rfl | (simp [errW_none, errW_some] <;> rfl)) | (simp [*, errW_none, errW_some] <;> rfl), by repeat (first | (with_reducible first | exact HB.out | apply below_alloc | apply pw_below_drewN | apply below_drew1 | refine below_set ?_ GE217.out | refine below_set ?_ GE221.out) | exact HB.out)⟩
                 ·
                  rw [if_neg c75] at H
                  have c75b0 : (a0_4 == 0) = false := beq_eq_false_iff_ne.mpr c75
                  have c75b1 : (a0_4 != 0) = true := bne_iff_ne.mpr c75
                  obtain rfl := Option.some.inj H
                  have hnb81 := NB217_221.out
                  have hnc81 := NB221_217.out
                  have hcz82_0 : wc.cell? ⟨gb217, 0, none⟩ = some (.int .i64 a0_0) := (blk_cell BK217.out 0).trans rfl
                  have hcz82_1 : wc.cell? ⟨gb217, 1, none⟩ = some (.int .i64 a0_1) := (blk_cell BK217.out 1).trans rfl
                  have hcz82_2 : wc.cell? ⟨gb217, 2, none⟩ = some (.int .u8 a0_2) := (blk_cell BK217.out 2).trans rfl
                  have hcz82_3 : wc.cell? ⟨gb217, 3, none⟩ = some (.int .i64 a0_3) := (blk_cell BK217.out 3).trans rfl
                  have hcz82_4 : wc.cell? ⟨gb217, 4, none⟩ = some (.int .i64 a0_4) := (blk_cell BK217.out 4).trans rfl
                  have hfz82_0 := blk_frozen BK217.out 0
                  have hfz82_1 := blk_frozen BK217.out 1
                  have hfz82_2 := blk_frozen BK217.out 2
                  have hfz82_3 := blk_frozen BK217.out 3
                  have hfz82_4 := blk_frozen BK217.out 4
                  go_wp2
                  go_ret
                  exact ⟨by first | rfl | (simp [errW_none, errW_some] <;> rfl) | (simp only [← hji18]; first | rfl | (simp [errW_none, errW_some] <;> rfl)) | (simp [*, errW_none, errW_some] <;> rfl), by repeat (first | (with_reducible first | exact HB.out | apply below_alloc | apply pw_below_drewN | apply below_drew1 | refine below_set ?_ GE217.out | refine below_set ?_ GE221.out) | exact HB.out)⟩
                ·
                 replace c74 := Bool.eq_false_iff.mpr c74
                 subst c74
                 have H1 : (if a0_3 ≥ 0 then (some (decide (a0_3 < a2))) else (some false)) = some r := by rw [if_neg (show ¬ (false = true) by decide)] at H; exact H
                 clear H
                 have H := H1
                 clear H1
                 by_cases c83 : a0_3 ≥ 0
                 ·
                  rw [if_pos c83] at H
                  have c83b0 : decide (0 ≤ a0_3) = true := decide_eq_true c83
                  clear c83
                  obtain rfl := Option.some.inj H
                  have hnb84 := NB217_221.out
                  have hnc84 := NB221_217.out
                  have hcz85_0 : wc.cell? ⟨gb217, 0, none⟩ = some (.int .i64 a0_0) := (blk_cell BK217.out 0).trans rfl
                  have hcz85_1 : wc.cell? ⟨gb217, 1, none⟩ = some (.int .i64 a0_1) := (blk_cell BK217.out 1).trans rfl
                  have hcz85_2 : wc.cell? ⟨gb217, 2, none⟩ = some (.int .u8 a0_2) := (blk_cell BK217.out 2).trans rfl
                  have hcz85_3 : wc.cell? ⟨gb217, 3, none⟩ = some (.int .i64 a0_3) := (blk_cell BK217.out 3).trans rfl
                  have hcz85_4 : wc.cell? ⟨gb217, 4, none⟩ = some (.int .i64 a0_4) := (blk_cell BK217.out 4).trans rfl
                  have hfz85_0 := blk_frozen BK217.out 0
                  have hfz85_1 := blk_frozen BK217.out 1
                  have hfz85_2 := blk_frozen BK217.out 2
                  have hfz85_3 := blk_frozen BK217.out 3
                  have hfz85_4 := blk_frozen BK217.out 4
                  go_wp2
                  go_ret
                  exact ⟨by first | rfl | (simp [errW_none, errW_some] <;> rfl) | (simp only [← hji18]; first | rfl | (simp [errW_none, errW_some] <;> rfl)) | (simp [*, errW_none, errW_some] <;> rfl), by repeat (first | (with_reducible first | exact HB.out | apply below_alloc | apply pw_below_drewN | apply below_drew1 | refine below_set ?_ GE217.out | refine below_set ?_ GE221.out) | exact HB.out)⟩
                 ·
                  rw [if_neg c83] at H
                  have c83b0 : decide (0 ≤ a0_3) = false := decide_eq_false c83
                  clear c83
                  obtain rfl := Option.some.inj H
                  have hnb86 := NB217_221.out
                  have hnc86 := NB221_217.out
                  have hcz87_0 : wc.cell? ⟨gb217, 0, none⟩ = some (.int .i64 a0_0) := (blk_cell BK217.out 0).trans rfl
                  have hcz87_1 : wc.cell? ⟨gb217, 1, none⟩ = some (.int .i64 a0_1) := (blk_cell BK217.out 1).trans rfl
                  have hcz87_2 : wc.cell? ⟨gb217, 2, none⟩ = some (.int .u8 a0_2) := (blk_cell BK217.out 2).trans rfl
                  have hcz87_3 : wc.cell? ⟨gb217, 3, none⟩ = some (.int .i64 a0_3) := (blk_cell BK217.out 3).trans rfl
                  have hcz87_4 : wc.cell? ⟨gb217, 4, none⟩ = some (.int .i64 a0_4) := (blk_cell BK217.out 4).trans rfl
                  have hfz87_0 := blk_frozen BK217.out 0
                  have hfz87_1 := blk_frozen BK217.out 1
                  have hfz87_2 := blk_frozen BK217.out 2
                  have hfz87_3 := blk_frozen BK217.out 3
                  have hfz87_4 := blk_frozen BK217.out 4
                  go_wp2
                  go_ret
                  exact ⟨by first | rfl | (simp [errW_none, errW_some] <;> rfl) | (simp only [← hji18]; first | rfl | (simp [errW_none, errW_some] <;> rfl)) | (simp [*, errW_none, errW_some] <;> rfl), by repeat (first | (with_reducible first | exact HB.out | apply below_alloc | apply pw_below_drewN | apply below_drew1 | refine below_set ?_ GE217.out | refine below_set ?_ GE221.out) | exact HB.out)⟩
     ·
      rw [if_neg c20] at H
      exact absurd H (by simp)
    ·
     rw [if_neg c19] at H
     exact absurd H (by simp)

end Go.Proofs.Ytdhkmaiidbomdaf.P
