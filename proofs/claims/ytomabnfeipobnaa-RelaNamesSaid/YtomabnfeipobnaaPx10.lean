-- Written by pext.py, a program of this session, over the kit's print: a function's contract
import Derived.Test.YtomabnfeipobnaaPx0
import Derived.Test.YtomabnfeipobnaaPx5
import Derived.Test.YtomabnfeipobnaaPx6
import Derived.Test.YtomabnfeipobnaaPx9
namespace Go.Proofs.Ytomabnfeipobnaa.P
open Go.RowKit Go.Proofs.YtomabnfeipobnaaW.PrintWords Go.Proofs.YtomabnfeipobnaaW.PrintLast Go.Proofs.YtomabnfeipobnaaW.PrintMore
attribute [local go_sem] max2_int min2_int max_two min_two max_three min_three max_four min_four   -- for this text's walks alone
set_option linter.unusedVariables false
set_option linter.unusedSimpArgs false

/-! ### rela_Check: function 54 -/
mutual
def rela_Check.j0 : Nat → List (S36) → Int → Bool → Int → Int → Int → Int → Int → Option (Int)
 | 0, _, _, _, _, _, _, _, _ => none
 | k + 1, x1, x2, x18, x687000, x687001, x687002, x687003, x687004 => if x18 = true then (some 2) else (rela_Check.l0 k x1 x2 x1 (x1.length : Int) 0 x687000 x687001 x687002 x687003 x687004)
def rela_Check.l0 : Nat → List (S36) → Int → List (S36) → Int → Int → Int → Int → Int → Int → Int → Option (Int)
 | 0, _, _, _, _, _, _, _, _, _, _ => none
 | k + 1, x1, x2, x19, x20, x21, x687000, x687001, x687002, x687003, x687004 => if x21 < x20 then (if 0 ≤ x21 then (if x21 < (x19.length : Int) then ((sect_Check.f k ((rd_T36 x19 x21).f0) ((rd_T36 x19 x21).f1) ((rd_T36 x19 x21).f2) ((rd_T36 x19 x21).f3)).bind fun t689 => (if t689 = 0 then (rela_Check.l0 k x1 x2 x19 x20 (wrap64 (x21 + 1)) x687000 x687001 x687002 x687003 x687004) else (some t689))) else (none)) else (none)) else (if x687000 < 1 then (some 8) else (if x687000 > (x1.length : Int) then (some 8) else (if 0 ≤ (wrap64 (x687000 - 1)) then (if (wrap64 (x687000 - 1)) < (x1.length : Int) then ((rela_may.f k x687000 x687001 x687002 x687003 x687004 ((rd_T36 x1 (wrap64 (x687000 - 1))).f0) ((rd_T36 x1 (wrap64 (x687000 - 1))).f1) ((rd_T36 x1 (wrap64 (x687000 - 1))).f2) ((rd_T36 x1 (wrap64 (x687000 - 1))).f3) x2).bind fun t691 => (if t691 = true then (some 0) else (some 8))) else (none)) else (none))))
end
def rela_Check.f (k : Nat) (a0_0 : Int) (a0_1 : Int) (a0_2 : Int) (a0_3 : Int) (a0_4 : Int) (l1 : List (S36)) (a2 : Int) : Option (Int) := if (l1.length : Int) > 16 then (some 4) else (if a2 < 0 then (rela_Check.j0 k l1 a2 true a0_0 a0_1 a0_2 a0_3 a0_4) else (rela_Check.j0 k l1 a2 (decide (a2 > 64)) a0_0 a0_1 a0_2 a0_3 a0_4))
theorem rela_Check.mono_l : ∀ k, (∀ y0 y1 y2 y3 y4 y5 y6 y7, LeO (rela_Check.j0 k y0 y1 y2 y3 y4 y5 y6 y7) (rela_Check.j0 (k + 1) y0 y1 y2 y3 y4 y5 y6 y7)) ∧ (∀ y0 y1 y2 y3 y4 y5 y6 y7 y8 y9, LeO (rela_Check.l0 k y0 y1 y2 y3 y4 y5 y6 y7 y8 y9) (rela_Check.l0 (k + 1) y0 y1 y2 y3 y4 y5 y6 y7 y8 y9))
 | 0 => ⟨fun _ _ _ _ _ _ _ _ r h => by simp [rela_Check.j0] at h, fun _ _ _ _ _ _ _ _ _ _ r h => by simp [rela_Check.l0] at h⟩
 | k + 1 => by
  obtain ⟨ih0, ih1⟩ := rela_Check.mono_l k
  refine ⟨?_, ?_⟩
  ·
   intro y0 y1 y2 y3 y4 y5 y6 y7
   unfold rela_Check.j0
   repeat' first
   | (with_reducible exact ih0 _ _ _ _ _ _ _ _)
   | (with_reducible exact ih1 _ _ _ _ _ _ _ _ _ _)
   | (with_reducible exact rela_may.mono _ _ _ _ _ _ _ _ _ _ _)
   | (with_reducible exact sect_Check.mono _ _ _ _ _)
   | (with_reducible exact LeO.refl _)
   | (with_reducible exact LeO.none _)
   | (with_reducible refine LeO.ite ?_ ?_)
   | (with_reducible refine LeO.bind ?_ (fun _ => ?_))
   | exact ih0 _ _ _ _ _ _ _ _
   | exact ih1 _ _ _ _ _ _ _ _ _ _
   | exact rela_may.mono _ _ _ _ _ _ _ _ _ _ _
   | exact sect_Check.mono _ _ _ _ _
   | exact LeO.none _
   | refine LeO.ite ?_ ?_
   | refine LeO.bind ?_ (fun _ => ?_)
  ·
   intro y0 y1 y2 y3 y4 y5 y6 y7 y8 y9
   unfold rela_Check.l0
   repeat' first
   | (with_reducible exact ih0 _ _ _ _ _ _ _ _)
   | (with_reducible exact ih1 _ _ _ _ _ _ _ _ _ _)
   | (with_reducible exact rela_may.mono _ _ _ _ _ _ _ _ _ _ _)
   | (with_reducible exact sect_Check.mono _ _ _ _ _)
   | (with_reducible exact LeO.refl _)
   | (with_reducible exact LeO.none _)
   | (with_reducible refine LeO.ite ?_ ?_)
   | (with_reducible refine LeO.bind ?_ (fun _ => ?_))
   | exact ih0 _ _ _ _ _ _ _ _
   | exact ih1 _ _ _ _ _ _ _ _ _ _
   | exact rela_may.mono _ _ _ _ _ _ _ _ _ _ _
   | exact sect_Check.mono _ _ _ _ _
   | exact LeO.none _
   | refine LeO.ite ?_ ?_
   | refine LeO.bind ?_ (fun _ => ?_)
theorem rela_Check.mono : ∀ a0 a1 a2 a3 a4 a5 a6 k, LeO (rela_Check.f k a0 a1 a2 a3 a4 a5 a6) (rela_Check.f (k + 1) a0 a1 a2 a3 a4 a5 a6) := by
 intro a0 a1 a2 a3 a4 a5 a6 k
 obtain ⟨ih0, ih1⟩ := rela_Check.mono_l k
 unfold rela_Check.f
 repeat' first
   | (with_reducible exact ih0 _ _ _ _ _ _ _ _)
   | (with_reducible exact ih1 _ _ _ _ _ _ _ _ _ _)
   | (with_reducible exact rela_may.mono _ _ _ _ _ _ _ _ _ _ _)
   | (with_reducible exact sect_Check.mono _ _ _ _ _)
   | (with_reducible exact LeO.refl _)
   | (with_reducible exact LeO.none _)
   | (with_reducible refine LeO.ite ?_ ?_)
   | (with_reducible refine LeO.bind ?_ (fun _ => ?_))
   | exact ih0 _ _ _ _ _ _ _ _
   | exact ih1 _ _ _ _ _ _ _ _ _ _
   | exact rela_may.mono _ _ _ _ _ _ _ _ _ _ _
   | exact sect_Check.mono _ _ _ _ _
   | exact LeO.none _
   | refine LeO.ite ?_ ?_
   | refine LeO.bind ?_ (fun _ => ?_)
def rela_Check.T12 : Bool × List (List Nat × List Nat) := (true, [([], []), ([0], [0]), ([1], [1]), ([2], [2]), ([3], [3]), ([4, 3], [3, 4]), ([3], [3]), ([6, 3], [3, 6]), ([5, 7, 3], [3, 5, 7]), ([3, 8], [3, 8]), ([9, 3], [9]), ([10], [10]), ([10], [10]), ([10], [10]), ([13, 10], [10, 13]), ([14, 10], [10, 14]), ([12, 15, 10], [10, 12, 15]), ([16, 10], [10, 16]), ([10], [10]), ([11, 17, 18, 10, 10], [10, 11, 17, 18]), ([19, 10], [10, 19]), ([10, 20], [10, 20])])
def rela_Check.B12 : List Nat := [0, 1, 3, 7, 15, 31, 15, 79, 255, 511, 1023, 2047, 2047, 2047, 10239, 26623, 63487, 129023, 2047, 524287, 1048575, 2097151]
theorem rela_Check.tab12 : rtab .any (opsOf Try.f54 12) = rela_Check.T12 := by kernel_rfl
theorem rela_Check.bits12 : waitsOk rela_Check.T12.2 rela_Check.B12 = true := by kernel_rfl
set_option maxHeartbeats 8000000 in
set_option maxRecDepth 100000 in
theorem rela_Check.calls (k : Nat) (a0_0 : Int) (a0_1 : Int) (a0_2 : Int) (a0_3 : Int) (a0_4 : Int) (A1 : Option Addr) (c1 : Nat) (l1 : List (S36)) (a2 : Int) (r : Int) (w : World) (hr1 : Kd.C k36 w A1 l1.length l1) (hc1 : l1.length ≤ c1) (h : rela_Check.f k a0_0 a0_1 a0_2 a0_3 a0_4 l1 a2 = some r) :
  Calls Try.prog 54 #[.agg #[.int .i64 a0_0, .int .i64 a0_1, .int .u8 a0_2, .int .i64 a0_3, .int .i64 a0_4], .slice A1 l1.length c1, .int .i64 a2] w fun e w' => e = .returned (.int .i64 r) ∧ Below w.heap.size w w' := by
 have hu71 := Try.underlying71
 have hu36 := Try.underlying36
 have HR1 := Aside0.mk hr1
 have HC1 := Aside0.mk hc1
 clear hr1 hc1
 have HB := Aside0.mk (Below.refl w.heap.size w)
 have H : (if (l1.length : Int) > 16 then (some 4) else (if a2 < 0 then (rela_Check.j0 k l1 a2 true a0_0 a0_1 a0_2 a0_3 a0_4) else (rela_Check.j0 k l1 a2 (decide (a2 > 64)) a0_0 a0_1 a0_2 a0_3 a0_4))) = some r := h
 clear h
 by_cases c4 : (l1.length : Int) > 16
 ·
  rw [if_pos c4] at H
  have c4b0 : decide (16 < (l1.length : Int)) = true := decide_eq_true c4
  have c4b1 : decide (16 < l1.length) = true := decide_eq_true (by omega)
  clear c4
  obtain rfl := Option.some.inj H
  go_enter Try.func54, Try.ntmps54
  go_wp2_with (first | ((with_reducible refine gate_dst (N := 3) rfl ?_); (try (refine gate_guard (by rfl) ?_; dsimp only)); refine box_event ?hg (N := 3) ?hd (cs := #[.int .i64 a0_0, .int .i64 a0_1, .int .u8 a0_2, .int .i64 a0_3, .int .i64 a0_4]) (t := 71) ?hr ?_; (case hd => rfl); (case hg => rfl); (case hr => first | (go_simp; done) | (go_simp; rfl)); intro gb686 hg w5 hbox hb; have n0_ := Aside0.mk (below_step (by repeat (first | (with_reducible first | exact HB.out | apply below_alloc | apply pw_below_drewN | apply below_drew1) | exact HB.out)) hb); have n1_ := Aside0.mk (hbox); have n2_ := Aside0.mk ((by rw [hg]; exact (below_size (by repeat (first | (with_reducible first | exact HB.out | apply below_alloc | apply pw_below_drewN | apply below_drew1) | exact HB.out))) : w.heap.size ≤ gb686)); have n3_ := Aside0.mk ((by rw [hg]; exact (below_size (by repeat (first | (with_reducible first | exact HB.out | apply below_alloc | apply pw_below_drewN | apply below_drew1) | exact HB.out))) : w.heap.size ≤ gb686)); clear HB; have HB := n0_; have BK686 := n1_; have GW686 := n2_; have GE686 := n3_; clear n0_ n1_ n2_ n3_; clear hb hbox hg))
  go_ret
  exact ⟨by first | rfl | (simp [errW_none, errW_some] <;> rfl) | (simp [*, errW_none, errW_some] <;> rfl), by repeat (first | (with_reducible first | exact HB.out | apply below_alloc | apply pw_below_drewN | apply below_drew1 | refine below_set ?_ GE686.out) | exact HB.out)⟩
 ·
  rw [if_neg c4] at H
  have c4b0 : decide (16 < (l1.length : Int)) = false := decide_eq_false c4
  have c4b1 : decide (16 < l1.length) = false := decide_eq_false (by omega)
  clear c4
  have HC6 := Aside0.mk H
  clear H
  go_enter Try.func54, Try.ntmps54
  go_upto_region 3 with (first | ((with_reducible refine gate_dst (N := 3) rfl ?_); (try (refine gate_guard (by rfl) ?_; dsimp only)); refine box_event ?hg (N := 3) ?hd (cs := #[.int .i64 a0_0, .int .i64 a0_1, .int .u8 a0_2, .int .i64 a0_3, .int .i64 a0_4]) (t := 71) ?hr ?_; (case hd => rfl); (case hg => rfl); (case hr => first | (go_simp; done) | (go_simp; rfl)); intro gb686 hg w7 hbox hb; have n0_ := Aside0.mk (below_step (by repeat (first | (with_reducible first | exact HB.out | apply below_alloc | apply pw_below_drewN | apply below_drew1) | exact HB.out)) hb); have n1_ := Aside0.mk (hbox); have n2_ := Aside0.mk ((by rw [hg]; exact (below_size (by repeat (first | (with_reducible first | exact HB.out | apply below_alloc | apply pw_below_drewN | apply below_drew1) | exact HB.out))) : w.heap.size ≤ gb686)); have n3_ := Aside0.mk ((by rw [hg]; exact (below_size (by repeat (first | (with_reducible first | exact HB.out | apply below_alloc | apply pw_below_drewN | apply below_drew1) | exact HB.out))) : w.heap.size ≤ gb686)); clear HB; have HB := n0_; have BK686 := n1_; have GW686 := n2_; have GE686 := n3_; clear n0_ n1_ n2_ n3_; clear hb hbox hg))
  (try simp only [Act.put, List.setIfInBounds_toArray, List.set_cons_zero, List.set_cons_succ])
  go_cut [18] (fun v18 wc => ∃ (kq : Nat) (x18_5 : Bool), v18 = .bool x18_5 ∧ Aside0 (rela_Check.j0 kq l1 a2 x18_5 a0_0 a0_1 a0_2 a0_3 a0_4 = some r) ∧ Aside0 (kq ≤ k) ∧ Aside0 (wc.heap[gb686]? = some (.cells #[.int .i64 a0_0, .int .i64 a0_1, .int .u8 a0_2, .int .i64 a0_3, .int .i64 a0_4] 71 (0, 0))) ∧ Aside0 (Below w.heap.size w wc))
  case first =>
   have H := HC6.out
   clear HC6
   by_cases c8 : a2 < 0
   ·
    rw [if_pos c8] at H
    have c8b0 : decide (a2 < 0) = true := decide_eq_true c8
    clear c8
    (first | rw [c8b0] | (simp only [i64_w, i32_w]; rw [c8b0]) | skip)
    have H' := Aside0.mk H
    clear H
    go_wp2
    go_meet
    case rel => exact ⟨_, (true), (by first | rfl | (simp; done) | (simp [*]; done)), H', ⟨by first | omega | exact Nat.le_refl _⟩, ⟨by (with_reducible repeat (first | refine blk_drewN ?_ _ | refine blk_drew ?_ | refine blk_alloc ?_ _)); exact BK686.out⟩, ⟨by repeat (first | (with_reducible first | exact HB.out | apply below_alloc | apply pw_below_drewN | apply below_drew1 | refine below_set ?_ GE686.out) | exact HB.out)⟩⟩
   ·
    rw [if_neg c8] at H
    have c8b0 : decide (a2 < 0) = false := decide_eq_false c8
    clear c8
    (first | rw [c8b0] | (simp only [i64_w, i32_w]; rw [c8b0]) | skip)
    have H' := Aside0.mk H
    clear H
    go_wp2
    go_meet
    case rel => exact ⟨_, (decide (a2 > 64)), (by first | rfl | (simp; done) | (simp [*]; done)), H', ⟨by first | omega | exact Nat.le_refl _⟩, ⟨by (with_reducible repeat (first | refine blk_drewN ?_ _ | refine blk_drew ?_ | refine blk_alloc ?_ _)); exact BK686.out⟩, ⟨by repeat (first | (with_reducible first | exact HB.out | apply below_alloc | apply pw_below_drewN | apply below_drew1 | refine below_set ?_ GE686.out) | exact HB.out)⟩⟩
  case rest =>
   clear HC6
   try clear c1
   try clear p2
   try clear c4
   try clear c4b0
   try clear c4b1
   try clear c5
   try clear c8
   try clear c8b0
   obtain ⟨kq, x18_5, rfl, HA, HJ5, BK686, HB⟩ := hcut
   cases kq with
   | zero => exact absurd HA.out (by simp [rela_Check.j0])
   | succ kj5 =>
    have H := HA.out
    clear HA
    simp only [rela_Check.j0] at H
    by_cases c9 : x18_5 = true
    ·
     subst c9
     have H1 : (some 2) = some r := by rw [if_pos rfl] at H; exact H
     clear H
     have H := H1
     clear H1
     obtain rfl := Option.some.inj H
     go_wp2
     go_ret
     exact ⟨by first | rfl | (simp [errW_none, errW_some] <;> rfl) | (simp [*, errW_none, errW_some] <;> rfl), by repeat (first | (with_reducible first | exact HB.out | apply below_alloc | apply pw_below_drewN | apply below_drew1 | refine below_set ?_ GE686.out) | exact HB.out)⟩
    ·
     replace c9 := Bool.eq_false_iff.mpr c9
     subst c9
     have H1 : (rela_Check.l0 kj5 l1 a2 l1 (l1.length : Int) 0 a0_0 a0_1 a0_2 a0_3 a0_4) = some r := by rw [if_neg (show ¬ (false = true) by decide)] at H; exact H
     clear H
     have H := H1
     clear H1
     have H' := Aside0.mk H
     clear H
     go_wp2
     go_loopg [21] kj5 (fun kq v21 w' => ∃ (x21_2 : Int), v21 = .int .i64 x21_2 ∧ Aside0 (rela_Check.l0 kq l1 a2 l1 (l1.length : Int) x21_2 a0_0 a0_1 a0_2 a0_3 a0_4 = some r) ∧ Aside0 (kq ≤ kj5) ∧ Aside0 (w'.heap[gb686]? = some (.cells #[.int .i64 a0_0, .int .i64 a0_1, .int .u8 a0_2, .int .i64 a0_3, .int .i64 a0_4] 71 (0, 0))) ∧ Aside0 (Below w.heap.size w w'))
     case atStart => exact ⟨(0), (by first | rfl | (simp; done) | (simp [*]; done)), H', ⟨Nat.le_refl _⟩, ⟨by (with_reducible repeat (first | refine blk_drewN ?_ _ | refine blk_drew ?_ | refine blk_alloc ?_ _)); exact BK686.out⟩, ⟨by repeat (first | (with_reducible first | exact HB.out | apply below_alloc | apply pw_below_drewN | apply below_drew1 | refine below_set ?_ GE686.out) | exact HB.out)⟩⟩
     case round =>
      clear H'
      try clear c1
      try clear p2
      try clear c4
      try clear c4b0
      try clear c4b1
      try clear c5
      try clear c8
      try clear c8b0
      try clear c9
      try clear p2
      obtain ⟨x21_2, rfl, HA, HK2, BK686, HB⟩ := hrel
      cases gk with
      | zero => exact absurd HA.out (by simp [rela_Check.l0])
      | succ k2 =>
       have H := HA.out
       clear HA
       simp only [rela_Check.l0] at H
       by_cases c10 : x21_2 < (l1.length : Int)
       ·
        rw [if_pos c10] at H
        have c10b0 : decide (x21_2 < (l1.length : Int)) = true := decide_eq_true c10
        clear c10
        by_cases c11 : 0 ≤ x21_2
        ·
         rw [if_pos c11] at H
         have c11b0 : decide (0 ≤ x21_2) = true := decide_eq_true c11
         clear c11
         by_cases c12 : x21_2 < (l1.length : Int)
         ·
          rw [if_pos c12] at H
          have c12b0 : decide (x21_2 < (l1.length : Int)) = true := decide_eq_true c12
          clear c12
          replace H := Option.bind_eq_some_iff.mp H
          obtain ⟨t689, A130, H⟩ := H
          replace H : (if t689 = 0 then (rela_Check.l0 k2 l1 a2 l1 (l1.length : Int) (wrap64 (x21_2 + 1)) a0_0 a0_1 a0_2 a0_3 a0_4) else (some t689)) = some r := H
          have A13 := Aside0.mk A130
          clear A130
          by_cases c14 : t689 = 0
          ·
           rw [if_pos c14] at H
           have c14b0 : (t689 == 0) = true := beq_iff_eq.mpr c14
           have c14b1 : (t689 != 0) = false := bne_eq_false_iff_eq.mpr c14
           clear c14
           have H' := Aside0.mk H
           clear H
           have p687 : 0 ≤ (x21_2 : Int) := of_decide_eq_true (by first | (with_reducible assumption) | assumption)
           have q687 : x21_2 < (l1.length : Int) := of_decide_eq_true (by first | (with_reducible assumption) | assumption)
           obtain ⟨ad687, A687_2, c687_2, e687, hx687_0, hx687_1, hx687_2, hx687_3, hl687_2, hi687_2⟩ := at_T36 HR1.out x21_2 p687 q687
           cases e687
           replace hx687_0 := (HB.out.cell (World.block_lt_of_cell? w _ hx687_0)).trans hx687_0
           replace hx687_1 := (HB.out.cell (World.block_lt_of_cell? w _ hx687_1)).trans hx687_1
           replace hx687_2 := (HB.out.cell (World.block_lt_of_cell? w _ hx687_2)).trans hx687_2
           replace hx687_3 := (HB.out.cell (World.block_lt_of_cell? w _ hx687_3)).trans hx687_3
           have HR687_2 := Aside0.mk hi687_2
           have HC687_2 := Aside0.mk hl687_2
           clear hi687_2 hl687_2
           replace p687 := eq_true p687
           replace q687 := eq_true q687
           go_wp2_with (first | ((with_reducible refine gate_dst (N := 8) rfl ?_); (try (refine gate_guard (by rfl) ?_; dsimp only)); refine box_event ?hg (N := 8) ?hd (cs := #[.string (⟨#[]⟩ : ByteArray), .int .i64 0, .slice none 0 0, .int .i64 0]) (t := 36) ?hr ?_; (case hd => rfl); (case hg => rfl); (case hr => first | (go_simp; done) | (go_simp; rfl)); intro gb688 hg w15 hbox hb; have n0_ := Aside0.mk (blk_below (g := gb686) (o := .cells #[.int .i64 a0_0, .int .i64 a0_1, .int .u8 a0_2, .int .i64 a0_3, .int .i64 a0_4] 71 (0, 0)) (by (with_reducible repeat (first | refine blk_drewN ?_ _ | refine blk_drew ?_ | refine blk_alloc ?_ _)); exact BK686.out) hb); have n1_ := Aside0.mk (below_step (by repeat (first | (with_reducible first | exact HB.out | apply below_alloc | apply pw_below_drewN | apply below_drew1 | refine below_set ?_ GE686.out) | exact HB.out)) hb); have n2_ := Aside0.mk (hbox); have n3_ := Aside0.mk ((by rw [hg]; exact (below_size (by repeat (first | (with_reducible first | exact HB.out | apply below_alloc | apply pw_below_drewN | apply below_drew1 | refine below_set ?_ GE686.out) | exact HB.out))) : w.heap.size ≤ gb688)); have n4_ := Aside0.mk ((by rw [hg]; exact (below_size (by repeat (first | (with_reducible first | exact HB.out | apply below_alloc | apply pw_below_drewN | apply below_drew1 | refine below_set ?_ GE686.out) | exact HB.out))) : w.heap.size ≤ gb688)); have n5_ := Aside0.mk ((by rw [hg]; exact Nat.ne_of_lt (blk_lt (g := gb686) (o := .cells #[.int .i64 a0_0, .int .i64 a0_1, .int .u8 a0_2, .int .i64 a0_3, .int .i64 a0_4] 71 (0, 0)) (by (with_reducible repeat (first | refine blk_drewN ?_ _ | refine blk_drew ?_ | refine blk_alloc ?_ _)); exact BK686.out)) : gb686 ≠ gb688)); have n6_ := Aside0.mk ((by rw [hg]; exact Nat.ne_of_gt (blk_lt (g := gb686) (o := .cells #[.int .i64 a0_0, .int .i64 a0_1, .int .u8 a0_2, .int .i64 a0_3, .int .i64 a0_4] 71 (0, 0)) (by (with_reducible repeat (first | refine blk_drewN ?_ _ | refine blk_drew ?_ | refine blk_alloc ?_ _)); exact BK686.out)) : gb688 ≠ gb686)); clear BK686; clear HB; have BK686 := n0_; have HB := n1_; have BK688 := n2_; have GW688 := n3_; have GE688 := n4_; have NB686_688 := n5_; have NB688_686 := n6_; clear n0_ n1_ n2_ n3_ n4_ n5_ n6_; clear hb hbox hg; have hnb16 := NB688_686.out; have hnc16 := NB686_688.out; have hcz17_0 : w15.cell? ⟨gb688, 0, none⟩ = some (.string (⟨#[]⟩ : ByteArray)) := (blk_cell BK688.out 0).trans rfl; have hcz17_1 : w15.cell? ⟨gb688, 1, none⟩ = some (.int .i64 0) := (blk_cell BK688.out 1).trans rfl; have hcz17_2 : w15.cell? ⟨gb688, 2, none⟩ = some (.slice none 0 0) := (blk_cell BK688.out 2).trans rfl; have hcz17_3 : w15.cell? ⟨gb688, 3, none⟩ = some (.int .i64 0) := (blk_cell BK688.out 3).trans rfl; have hfz17_0 := blk_frozen BK688.out 0; have hfz17_1 := blk_frozen BK688.out 1; have hfz17_2 := blk_frozen BK688.out 2; have hfz17_3 := blk_frozen BK688.out 3) | ((with_reducible refine gate_callee (f := 37) rfl ?_); refine goesL_ (some 26) rfl rfl Try.func37 (by kernel_rfl) rfl #[.agg #[.string ((rd_T36 l1 x21_2).f0), .int .i64 ((rd_T36 l1 x21_2).f1), .slice A687_2 ((rd_T36 l1 x21_2).f2).length c687_2, .int .i64 ((rd_T36 l1 x21_2).f3)]] rfl (by (try simp only [List.map_toArray, List.map_cons, List.map_nil]); first | done | rfl | (simp only [List.length_drop, List.length_take]; rfl)) ?_; (with_reducible refine (sect_Check.calls k2 ((rd_T36 l1 x21_2).f0) ((rd_T36 l1 x21_2).f1) _ _ ((rd_T36 l1 x21_2).f2) ((rd_T36 l1 x21_2).f3) t689 _ ?side1 ?side2 A13.out).mono ?_); (case side1 => exact Kd.C_below HR687_2.out (by repeat (first | (with_reducible first | exact HB.out | apply below_alloc | apply pw_below_drewN | apply below_drew1 | refine below_set ?_ GE686.out | refine below_set ?_ GE688.out) | exact HB.out))); (case side2 => exact HC687_2.out); rintro e w18 ⟨rfl, hb⟩; refine ⟨_, rfl, ?_⟩; have n0_ := Aside0.mk (blk_below (g := gb686) (o := .cells #[.int .i64 a0_0, .int .i64 a0_1, .int .u8 a0_2, .int .i64 a0_3, .int .i64 a0_4] 71 (0, 0)) (by (with_reducible repeat (first | refine blk_drewN ?_ _ | refine blk_drew ?_ | refine blk_alloc ?_ _)); refine blk_far ?_ NB686_688.out _; (with_reducible repeat (first | refine blk_drewN ?_ _ | refine blk_drew ?_ | refine blk_alloc ?_ _)); refine blk_far ?_ NB686_688.out _; (with_reducible repeat (first | refine blk_drewN ?_ _ | refine blk_drew ?_ | refine blk_alloc ?_ _)); refine blk_far ?_ NB686_688.out _; (with_reducible repeat (first | refine blk_drewN ?_ _ | refine blk_drew ?_ | refine blk_alloc ?_ _)); refine blk_far ?_ NB686_688.out _; (with_reducible repeat (first | refine blk_drewN ?_ _ | refine blk_drew ?_ | refine blk_alloc ?_ _)); exact BK686.out) hb); have n1_ := Aside0.mk (blk_below (g := gb688) (o := .cells #[.string ((rd_T36 l1 x21_2).f0), .int .i64 ((rd_T36 l1 x21_2).f1), .slice A687_2 ((rd_T36 l1 x21_2).f2).length c687_2, .int .i64 ((rd_T36 l1 x21_2).f3)] 36 (0, 0)) (by (with_reducible repeat (first | refine blk_drewN ?_ _ | refine blk_drew ?_ | refine blk_alloc ?_ _)); refine blk_put (cs := #[.string ((rd_T36 l1 x21_2).f0), .int .i64 ((rd_T36 l1 x21_2).f1), .slice A687_2 ((rd_T36 l1 x21_2).f2).length c687_2, .int .i64 0]) ?_ 3 _ rfl; (with_reducible repeat (first | refine blk_drewN ?_ _ | refine blk_drew ?_ | refine blk_alloc ?_ _)); refine blk_put (cs := #[.string ((rd_T36 l1 x21_2).f0), .int .i64 ((rd_T36 l1 x21_2).f1), .slice none 0 0, .int .i64 0]) ?_ 2 _ rfl; (with_reducible repeat (first | refine blk_drewN ?_ _ | refine blk_drew ?_ | refine blk_alloc ?_ _)); refine blk_put (cs := #[.string ((rd_T36 l1 x21_2).f0), .int .i64 0, .slice none 0 0, .int .i64 0]) ?_ 1 _ rfl; (with_reducible repeat (first | refine blk_drewN ?_ _ | refine blk_drew ?_ | refine blk_alloc ?_ _)); refine blk_put (cs := #[.string (⟨#[]⟩ : ByteArray), .int .i64 0, .slice none 0 0, .int .i64 0]) ?_ 0 _ rfl; (with_reducible repeat (first | refine blk_drewN ?_ _ | refine blk_drew ?_ | refine blk_alloc ?_ _)); exact BK688.out) hb); have n2_ := Aside0.mk (below_step (by repeat (first | (with_reducible first | exact HB.out | apply below_alloc | apply pw_below_drewN | apply below_drew1 | refine below_set ?_ GE686.out | refine below_set ?_ GE688.out) | exact HB.out)) hb); clear BK686; clear BK688; clear HB; have BK686 := n0_; have BK688 := n1_; have HB := n2_; clear n0_ n1_ n2_; (try clear hb); (try clear hb2); (try clear hk); (try clear hi)))
           go_roundg k2
           case measure => have := HJ5.out; have := HK2.out; omega
           case rel => exact ⟨(wrap64 (x21_2 + 1)), (by first | rfl | (simp; done) | (simp [*]; done)), H', ⟨by have := HJ5.out; have := HK2.out; omega⟩, ⟨by (with_reducible repeat (first | refine blk_drewN ?_ _ | refine blk_drew ?_ | refine blk_alloc ?_ _)); exact BK686.out⟩, ⟨by repeat (first | (with_reducible first | exact HB.out | apply below_alloc | apply pw_below_drewN | apply below_drew1 | refine below_set ?_ GE686.out | refine below_set ?_ GE688.out) | exact HB.out)⟩⟩
          ·
           rw [if_neg c14] at H
           have c14b0 : (t689 == 0) = false := beq_eq_false_iff_ne.mpr c14
           have c14b1 : (t689 != 0) = true := bne_iff_ne.mpr c14
           obtain rfl := Option.some.inj H
           have p687 : 0 ≤ (x21_2 : Int) := of_decide_eq_true (by first | (with_reducible assumption) | assumption)
           have q687 : x21_2 < (l1.length : Int) := of_decide_eq_true (by first | (with_reducible assumption) | assumption)
           obtain ⟨ad687, A687_2, c687_2, e687, hx687_0, hx687_1, hx687_2, hx687_3, hl687_2, hi687_2⟩ := at_T36 HR1.out x21_2 p687 q687
           cases e687
           replace hx687_0 := (HB.out.cell (World.block_lt_of_cell? w _ hx687_0)).trans hx687_0
           replace hx687_1 := (HB.out.cell (World.block_lt_of_cell? w _ hx687_1)).trans hx687_1
           replace hx687_2 := (HB.out.cell (World.block_lt_of_cell? w _ hx687_2)).trans hx687_2
           replace hx687_3 := (HB.out.cell (World.block_lt_of_cell? w _ hx687_3)).trans hx687_3
           have HR687_2 := Aside0.mk hi687_2
           have HC687_2 := Aside0.mk hl687_2
           clear hi687_2 hl687_2
           replace p687 := eq_true p687
           replace q687 := eq_true q687
           go_wp2_with (first | ((with_reducible refine gate_dst (N := 8) rfl ?_); (try (refine gate_guard (by rfl) ?_; dsimp only)); refine box_event ?hg (N := 8) ?hd (cs := #[.string (⟨#[]⟩ : ByteArray), .int .i64 0, .slice none 0 0, .int .i64 0]) (t := 36) ?hr ?_; (case hd => rfl); (case hg => rfl); (case hr => first | (go_simp; done) | (go_simp; rfl)); intro gb688 hg w19 hbox hb; have n0_ := Aside0.mk (blk_below (g := gb686) (o := .cells #[.int .i64 a0_0, .int .i64 a0_1, .int .u8 a0_2, .int .i64 a0_3, .int .i64 a0_4] 71 (0, 0)) (by (with_reducible repeat (first | refine blk_drewN ?_ _ | refine blk_drew ?_ | refine blk_alloc ?_ _)); exact BK686.out) hb); have n1_ := Aside0.mk (below_step (by repeat (first | (with_reducible first | exact HB.out | apply below_alloc | apply pw_below_drewN | apply below_drew1 | refine below_set ?_ GE686.out) | exact HB.out)) hb); have n2_ := Aside0.mk (hbox); have n3_ := Aside0.mk ((by rw [hg]; exact (below_size (by repeat (first | (with_reducible first | exact HB.out | apply below_alloc | apply pw_below_drewN | apply below_drew1 | refine below_set ?_ GE686.out) | exact HB.out))) : w.heap.size ≤ gb688)); have n4_ := Aside0.mk ((by rw [hg]; exact (below_size (by repeat (first | (with_reducible first | exact HB.out | apply below_alloc | apply pw_below_drewN | apply below_drew1 | refine below_set ?_ GE686.out) | exact HB.out))) : w.heap.size ≤ gb688)); have n5_ := Aside0.mk ((by rw [hg]; exact Nat.ne_of_lt (blk_lt (g := gb686) (o := .cells #[.int .i64 a0_0, .int .i64 a0_1, .int .u8 a0_2, .int .i64 a0_3, .int .i64 a0_4] 71 (0, 0)) (by (with_reducible repeat (first | refine blk_drewN ?_ _ | refine blk_drew ?_ | refine blk_alloc ?_ _)); exact BK686.out)) : gb686 ≠ gb688)); have n6_ := Aside0.mk ((by rw [hg]; exact Nat.ne_of_gt (blk_lt (g := gb686) (o := .cells #[.int .i64 a0_0, .int .i64 a0_1, .int .u8 a0_2, .int .i64 a0_3, .int .i64 a0_4] 71 (0, 0)) (by (with_reducible repeat (first | refine blk_drewN ?_ _ | refine blk_drew ?_ | refine blk_alloc ?_ _)); exact BK686.out)) : gb688 ≠ gb686)); clear BK686; clear HB; have BK686 := n0_; have HB := n1_; have BK688 := n2_; have GW688 := n3_; have GE688 := n4_; have NB686_688 := n5_; have NB688_686 := n6_; clear n0_ n1_ n2_ n3_ n4_ n5_ n6_; clear hb hbox hg; have hnb20 := NB688_686.out; have hnc20 := NB686_688.out; have hcz21_0 : w19.cell? ⟨gb688, 0, none⟩ = some (.string (⟨#[]⟩ : ByteArray)) := (blk_cell BK688.out 0).trans rfl; have hcz21_1 : w19.cell? ⟨gb688, 1, none⟩ = some (.int .i64 0) := (blk_cell BK688.out 1).trans rfl; have hcz21_2 : w19.cell? ⟨gb688, 2, none⟩ = some (.slice none 0 0) := (blk_cell BK688.out 2).trans rfl; have hcz21_3 : w19.cell? ⟨gb688, 3, none⟩ = some (.int .i64 0) := (blk_cell BK688.out 3).trans rfl; have hfz21_0 := blk_frozen BK688.out 0; have hfz21_1 := blk_frozen BK688.out 1; have hfz21_2 := blk_frozen BK688.out 2; have hfz21_3 := blk_frozen BK688.out 3) | ((with_reducible refine gate_callee (f := 37) rfl ?_); refine goesL_ (some 26) rfl rfl Try.func37 (by kernel_rfl) rfl #[.agg #[.string ((rd_T36 l1 x21_2).f0), .int .i64 ((rd_T36 l1 x21_2).f1), .slice A687_2 ((rd_T36 l1 x21_2).f2).length c687_2, .int .i64 ((rd_T36 l1 x21_2).f3)]] rfl (by (try simp only [List.map_toArray, List.map_cons, List.map_nil]); first | done | rfl | (simp only [List.length_drop, List.length_take]; rfl)) ?_; (with_reducible refine (sect_Check.calls k2 ((rd_T36 l1 x21_2).f0) ((rd_T36 l1 x21_2).f1) _ _ ((rd_T36 l1 x21_2).f2) ((rd_T36 l1 x21_2).f3) t689 _ ?side1 ?side2 A13.out).mono ?_); (case side1 => exact Kd.C_below HR687_2.out (by repeat (first | (with_reducible first | exact HB.out | apply below_alloc | apply pw_below_drewN | apply below_drew1 | refine below_set ?_ GE686.out | refine below_set ?_ GE688.out) | exact HB.out))); (case side2 => exact HC687_2.out); rintro e w22 ⟨rfl, hb⟩; refine ⟨_, rfl, ?_⟩; have n0_ := Aside0.mk (blk_below (g := gb686) (o := .cells #[.int .i64 a0_0, .int .i64 a0_1, .int .u8 a0_2, .int .i64 a0_3, .int .i64 a0_4] 71 (0, 0)) (by (with_reducible repeat (first | refine blk_drewN ?_ _ | refine blk_drew ?_ | refine blk_alloc ?_ _)); refine blk_far ?_ NB686_688.out _; (with_reducible repeat (first | refine blk_drewN ?_ _ | refine blk_drew ?_ | refine blk_alloc ?_ _)); refine blk_far ?_ NB686_688.out _; (with_reducible repeat (first | refine blk_drewN ?_ _ | refine blk_drew ?_ | refine blk_alloc ?_ _)); refine blk_far ?_ NB686_688.out _; (with_reducible repeat (first | refine blk_drewN ?_ _ | refine blk_drew ?_ | refine blk_alloc ?_ _)); refine blk_far ?_ NB686_688.out _; (with_reducible repeat (first | refine blk_drewN ?_ _ | refine blk_drew ?_ | refine blk_alloc ?_ _)); exact BK686.out) hb); have n1_ := Aside0.mk (blk_below (g := gb688) (o := .cells #[.string ((rd_T36 l1 x21_2).f0), .int .i64 ((rd_T36 l1 x21_2).f1), .slice A687_2 ((rd_T36 l1 x21_2).f2).length c687_2, .int .i64 ((rd_T36 l1 x21_2).f3)] 36 (0, 0)) (by (with_reducible repeat (first | refine blk_drewN ?_ _ | refine blk_drew ?_ | refine blk_alloc ?_ _)); refine blk_put (cs := #[.string ((rd_T36 l1 x21_2).f0), .int .i64 ((rd_T36 l1 x21_2).f1), .slice A687_2 ((rd_T36 l1 x21_2).f2).length c687_2, .int .i64 0]) ?_ 3 _ rfl; (with_reducible repeat (first | refine blk_drewN ?_ _ | refine blk_drew ?_ | refine blk_alloc ?_ _)); refine blk_put (cs := #[.string ((rd_T36 l1 x21_2).f0), .int .i64 ((rd_T36 l1 x21_2).f1), .slice none 0 0, .int .i64 0]) ?_ 2 _ rfl; (with_reducible repeat (first | refine blk_drewN ?_ _ | refine blk_drew ?_ | refine blk_alloc ?_ _)); refine blk_put (cs := #[.string ((rd_T36 l1 x21_2).f0), .int .i64 0, .slice none 0 0, .int .i64 0]) ?_ 1 _ rfl; (with_reducible repeat (first | refine blk_drewN ?_ _ | refine blk_drew ?_ | refine blk_alloc ?_ _)); refine blk_put (cs := #[.string (⟨#[]⟩ : ByteArray), .int .i64 0, .slice none 0 0, .int .i64 0]) ?_ 0 _ rfl; (with_reducible repeat (first | refine blk_drewN ?_ _ | refine blk_drew ?_ | refine blk_alloc ?_ _)); exact BK688.out) hb); have n2_ := Aside0.mk (below_step (by repeat (first | (with_reducible first | exact HB.out | apply below_alloc | apply pw_below_drewN | apply below_drew1 | refine below_set ?_ GE686.out | refine below_set ?_ GE688.out) | exact HB.out)) hb); clear BK686; clear BK688; clear HB; have BK686 := n0_; have BK688 := n1_; have HB := n2_; clear n0_ n1_ n2_; (try clear hb); (try clear hb2); (try clear hk); (try clear hi)))
           go_ret
           exact ⟨by first | rfl | (simp [errW_none, errW_some] <;> rfl) | (simp [*, errW_none, errW_some] <;> rfl), by repeat (first | (with_reducible first | exact HB.out | apply below_alloc | apply pw_below_drewN | apply below_drew1 | refine below_set ?_ GE686.out | refine below_set ?_ GE688.out) | exact HB.out)⟩
         ·
          rw [if_neg c12] at H
          exact absurd H (by simp)
        ·
         rw [if_neg c11] at H
         exact absurd H (by simp)
       ·
        rw [if_neg c10] at H
        have c10b0 : decide (x21_2 < (l1.length : Int)) = false := decide_eq_false c10
        clear c10
        by_cases c23 : a0_0 < 1
        ·
         rw [if_pos c23] at H
         have c23b0 : decide (a0_0 < 1) = true := decide_eq_true c23
         clear c23
         obtain rfl := Option.some.inj H
         try go_wp2
         have n0_ := Aside0.mk (blk_drew BK686.out)
         have n1_ := Aside0.mk (below_drew1 HB.out)
         clear BK686
         clear HB
         have BK686 := n0_
         have HB := n1_
         clear n0_ n1_
         refine start_ (n := 22) (S := fun w' => w'.cell? ⟨gb686, 0, none⟩ = some (.int .i64 a0_0) ∧ w'.cell? ⟨gb686, 1, none⟩ = some (.int .i64 a0_1) ∧ w'.cell? ⟨gb686, 2, none⟩ = some (.int .u8 a0_2) ∧ w'.cell? ⟨gb686, 3, none⟩ = some (.int .i64 a0_3) ∧ w'.cell? ⟨gb686, 4, none⟩ = some (.int .i64 a0_4)) (ds := []) #[false, false, false, false, false, false, false, false, false, false, false, false, false, false, false, false, false, false, false, false, false, false] (by kernel_rfl) rfl rfl ⟨(blk_cell BK686.out 0).trans rfl, (blk_cell BK686.out 1).trans rfl, (blk_cell BK686.out 2).trans rfl, (blk_cell BK686.out 3).trans rfl, (blk_cell BK686.out 4).trans rfl⟩ (fun hHeld => ?_); refine with_tabW rela_Check.tab12 rela_Check.bits12 (fun HT_ HW_ => ?_)
         generalize wr.drew = w24 at BK686 HB hHeld ⊢
         refine pure_ (i := 0) (N := some 31) (v := ?_) (a' := ?_) #[true, false, false, false, false, false, false, false, false, false, false, false, false, false, false, false, false, false, false, false, false, false] rfl rfl (any_of HT_.out (by kernel_rfl)) (fun _ _ _ h => h) (Or.inl ⟨by rfl, ?_⟩) ?_ ?_
         rotate_left
         ·
          intro w'
          go_simp
          with_reducible rfl
         rotate_left
         ·
          simp only [Act.put, List.setIfInBounds_toArray, List.set_cons_zero, List.set_cons_succ, i64_w, i32_w, IntKind.wrap_u8, IntKind.wrap_u32]
          rfl
         refine take_ (i := 1) (N := some 32) (v := ?_) (a' := ?_) #[true, true, false, false, false, false, false, false, false, false, false, false, false, false, false, false, false, false, false, false, false, false] rfl rfl (take_ofW HT_.out HW_.out (by kernel_rfl)) (fun _ _ _ h => h) (Or.inl ⟨by rfl, ?_⟩) hHeld ?_ ?_
         rotate_left
         ·
          rintro w' ⟨s0, s1, s2, s3, s4⟩
          go_simp
          with_reducible rfl
         rotate_left
         ·
          simp only [Act.put, List.setIfInBounds_toArray, List.set_cons_zero, List.set_cons_succ, i64_w, i32_w, IntKind.wrap_u8, IntKind.wrap_u32]
          rfl
         refine pure_ (i := 2) (N := some 33) (v := ?_) (a' := ?_) #[true, true, true, false, false, false, false, false, false, false, false, false, false, false, false, false, false, false, false, false, false, false] rfl rfl (any_of HT_.out (by kernel_rfl)) (fun _ _ _ h => h) (Or.inl ⟨by rfl, ?_⟩) ?_ ?_
         rotate_left
         ·
          intro w'
          go_simp
          with_reducible rfl
         rotate_left
         ·
          simp only [Act.put, List.setIfInBounds_toArray, List.set_cons_zero, List.set_cons_succ, i64_w, i32_w, IntKind.wrap_u8, IntKind.wrap_u32]
          rfl
         refine pure_ (i := 3) (N := some 34) (v := ?_) (a' := ?_) #[true, true, true, true, false, false, false, false, false, false, false, false, false, false, false, false, false, false, false, false, false, false] rfl rfl (any_of HT_.out (by kernel_rfl)) (fun _ _ _ h => h) (Or.inl ⟨by rfl, ?_⟩) ?_ ?_
         rotate_left
         ·
          intro w'
          go_simp
          with_reducible rfl
         rotate_left
         ·
          simp only [Act.put, List.setIfInBounds_toArray, List.set_cons_zero, List.set_cons_succ, i64_w, i32_w, IntKind.wrap_u8, IntKind.wrap_u32]
          rfl
         refine pure_ (i := 4) (N := some 35) (v := undef) (a' := ?_) #[true, true, true, true, true, false, false, false, false, false, false, false, false, false, false, false, false, false, false, false, false, false] rfl rfl (any_of HT_.out (by kernel_rfl)) (fun _ _ _ h => h) (Or.inr ⟨by rfl, rfl⟩) ?_ ?_
         rotate_left
         ·
          simp only [Act.put, List.setIfInBounds_toArray, List.set_cons_zero, List.set_cons_succ, i64_w, i32_w, IntKind.wrap_u8, IntKind.wrap_u32]
          rfl
         refine pure_ (i := 5) (N := some 36) (v := undef) (a' := ?_) #[true, true, true, true, true, true, false, false, false, false, false, false, false, false, false, false, false, false, false, false, false, false] rfl rfl (any_of HT_.out (by kernel_rfl)) (fun _ _ _ h => h) (Or.inr ⟨by rfl, rfl⟩) ?_ ?_
         rotate_left
         ·
          simp only [Act.put, List.setIfInBounds_toArray, List.set_cons_zero, List.set_cons_succ, i64_w, i32_w, IntKind.wrap_u8, IntKind.wrap_u32]
          rfl
         refine pure_ (i := 6) (N := some 37) (v := undef) (a' := ?_) #[true, true, true, true, true, true, true, false, false, false, false, false, false, false, false, false, false, false, false, false, false, false] rfl rfl (any_of HT_.out (by kernel_rfl)) (fun _ _ _ h => h) (Or.inr ⟨by rfl, rfl⟩) ?_ ?_
         rotate_left
         ·
          simp only [Act.put, List.setIfInBounds_toArray, List.set_cons_zero, List.set_cons_succ, i64_w, i32_w, IntKind.wrap_u8, IntKind.wrap_u32]
          rfl
         refine pure_ (i := 7) (N := some 38) (v := undef) (a' := ?_) #[true, true, true, true, true, true, true, true, false, false, false, false, false, false, false, false, false, false, false, false, false, false] rfl rfl (any_of HT_.out (by kernel_rfl)) (fun _ _ _ h => h) (Or.inr ⟨by rfl, rfl⟩) ?_ ?_
         rotate_left
         ·
          simp only [Act.put, List.setIfInBounds_toArray, List.set_cons_zero, List.set_cons_succ, i64_w, i32_w, IntKind.wrap_u8, IntKind.wrap_u32]
          rfl
         refine pure_ (i := 8) (N := some 39) (v := undef) (a' := ?_) #[true, true, true, true, true, true, true, true, true, false, false, false, false, false, false, false, false, false, false, false, false, false] rfl rfl (any_of HT_.out (by kernel_rfl)) (fun _ _ _ h => h) (Or.inr ⟨by rfl, rfl⟩) ?_ ?_
         rotate_left
         ·
          simp only [Act.put, List.setIfInBounds_toArray, List.set_cons_zero, List.set_cons_succ, i64_w, i32_w, IntKind.wrap_u8, IntKind.wrap_u32]
          rfl
         refine pure_ (i := 9) (N := some 40) (v := ?_) (a' := ?_) #[true, true, true, true, true, true, true, true, true, true, false, false, false, false, false, false, false, false, false, false, false, false] rfl rfl (any_of HT_.out (by kernel_rfl)) (fun _ _ _ h => h) (Or.inl ⟨by rfl, ?_⟩) ?_ ?_
         rotate_left
         ·
          intro w'
          go_simp
          with_reducible rfl
         rotate_left
         ·
          simp only [Act.put, List.setIfInBounds_toArray, List.set_cons_zero, List.set_cons_succ, i64_w, i32_w, IntKind.wrap_u8, IntKind.wrap_u32]
          rfl
         refine pure_ (i := 10) (N := some 41) (v := ?_) (a' := ?_) #[true, true, true, true, true, true, true, true, true, true, true, false, false, false, false, false, false, false, false, false, false, false] rfl rfl (any_of HT_.out (by kernel_rfl)) (fun _ _ _ h => h) (Or.inl ⟨by rfl, ?_⟩) ?_ ?_
         rotate_left
         ·
          intro w'
          go_simp
          with_reducible rfl
         rotate_left
         ·
          simp only [Act.put, List.setIfInBounds_toArray, List.set_cons_zero, List.set_cons_succ, i64_w, i32_w, IntKind.wrap_u8, IntKind.wrap_u32]
          rfl
         refine pure_ (i := 11) (N := some 42) (v := undef) (a' := ?_) #[true, true, true, true, true, true, true, true, true, true, true, true, false, false, false, false, false, false, false, false, false, false] rfl rfl (any_of HT_.out (by kernel_rfl)) (fun _ _ _ h => h) (Or.inr ⟨by rfl, rfl⟩) ?_ ?_
         rotate_left
         ·
          simp only [Act.put, List.setIfInBounds_toArray, List.set_cons_zero, List.set_cons_succ, i64_w, i32_w, IntKind.wrap_u8, IntKind.wrap_u32]
          rfl
         refine pure_ (i := 12) (N := some 43) (v := undef) (a' := ?_) #[true, true, true, true, true, true, true, true, true, true, true, true, true, false, false, false, false, false, false, false, false, false] rfl rfl (any_of HT_.out (by kernel_rfl)) (fun _ _ _ h => h) (Or.inr ⟨by rfl, rfl⟩) ?_ ?_
         rotate_left
         ·
          simp only [Act.put, List.setIfInBounds_toArray, List.set_cons_zero, List.set_cons_succ, i64_w, i32_w, IntKind.wrap_u8, IntKind.wrap_u32]
          rfl
         refine pure_ (i := 13) (N := some 44) (v := undef) (a' := ?_) #[true, true, true, true, true, true, true, true, true, true, true, true, true, true, false, false, false, false, false, false, false, false] rfl rfl (any_of HT_.out (by kernel_rfl)) (fun _ _ _ h => h) (Or.inr ⟨by rfl, rfl⟩) ?_ ?_
         rotate_left
         ·
          simp only [Act.put, List.setIfInBounds_toArray, List.set_cons_zero, List.set_cons_succ, i64_w, i32_w, IntKind.wrap_u8, IntKind.wrap_u32]
          rfl
         refine pure_ (i := 14) (N := some 45) (v := undef) (a' := ?_) #[true, true, true, true, true, true, true, true, true, true, true, true, true, true, true, false, false, false, false, false, false, false] rfl rfl (any_of HT_.out (by kernel_rfl)) (fun _ _ _ h => h) (Or.inr ⟨by rfl, rfl⟩) ?_ ?_
         rotate_left
         ·
          simp only [Act.put, List.setIfInBounds_toArray, List.set_cons_zero, List.set_cons_succ, i64_w, i32_w, IntKind.wrap_u8, IntKind.wrap_u32]
          rfl
         refine pure_ (i := 15) (N := some 46) (v := undef) (a' := ?_) #[true, true, true, true, true, true, true, true, true, true, true, true, true, true, true, true, false, false, false, false, false, false] rfl rfl (any_of HT_.out (by kernel_rfl)) (fun _ _ _ h => h) (Or.inr ⟨by rfl, rfl⟩) ?_ ?_
         rotate_left
         ·
          simp only [Act.put, List.setIfInBounds_toArray, List.set_cons_zero, List.set_cons_succ, i64_w, i32_w, IntKind.wrap_u8, IntKind.wrap_u32]
          rfl
         refine pure_ (i := 16) (N := some 47) (v := undef) (a' := ?_) #[true, true, true, true, true, true, true, true, true, true, true, true, true, true, true, true, true, false, false, false, false, false] rfl rfl (any_of HT_.out (by kernel_rfl)) (fun _ _ _ h => h) (Or.inr ⟨by rfl, rfl⟩) ?_ ?_
         rotate_left
         ·
          simp only [Act.put, List.setIfInBounds_toArray, List.set_cons_zero, List.set_cons_succ, i64_w, i32_w, IntKind.wrap_u8, IntKind.wrap_u32]
          rfl
         refine pure_ (i := 17) (N := some 48) (v := undef) (a' := ?_) #[true, true, true, true, true, true, true, true, true, true, true, true, true, true, true, true, true, true, false, false, false, false] rfl rfl (any_of HT_.out (by kernel_rfl)) (fun _ _ _ h => h) (Or.inr ⟨by rfl, rfl⟩) ?_ ?_
         rotate_left
         ·
          simp only [Act.put, List.setIfInBounds_toArray, List.set_cons_zero, List.set_cons_succ, i64_w, i32_w, IntKind.wrap_u8, IntKind.wrap_u32]
          rfl
         refine pure_ (i := 18) (N := some 49) (v := undef) (a' := ?_) #[true, true, true, true, true, true, true, true, true, true, true, true, true, true, true, true, true, true, true, false, false, false] rfl rfl (any_of HT_.out (by kernel_rfl)) (fun _ _ _ h => h) (Or.inr ⟨by rfl, rfl⟩) ?_ ?_
         rotate_left
         ·
          simp only [Act.put, List.setIfInBounds_toArray, List.set_cons_zero, List.set_cons_succ, i64_w, i32_w, IntKind.wrap_u8, IntKind.wrap_u32]
          rfl
         refine pure_ (i := 19) (N := some 50) (v := undef) (a' := ?_) #[true, true, true, true, true, true, true, true, true, true, true, true, true, true, true, true, true, true, true, true, false, false] rfl rfl (any_of HT_.out (by kernel_rfl)) (fun _ _ _ h => h) (Or.inr ⟨by rfl, rfl⟩) ?_ ?_
         rotate_left
         ·
          simp only [Act.put, List.setIfInBounds_toArray, List.set_cons_zero, List.set_cons_succ, i64_w, i32_w, IntKind.wrap_u8, IntKind.wrap_u32]
          rfl
         refine pure_ (i := 20) (N := some 51) (v := undef) (a' := ?_) #[true, true, true, true, true, true, true, true, true, true, true, true, true, true, true, true, true, true, true, true, true, false] rfl rfl (any_of HT_.out (by kernel_rfl)) (fun _ _ _ h => h) (Or.inr ⟨by rfl, rfl⟩) ?_ ?_
         rotate_left
         ·
          simp only [Act.put, List.setIfInBounds_toArray, List.set_cons_zero, List.set_cons_succ, i64_w, i32_w, IntKind.wrap_u8, IntKind.wrap_u32]
          rfl
         refine pure_ (i := 21) (N := some 52) (v := ?_) (a' := ?_) #[true, true, true, true, true, true, true, true, true, true, true, true, true, true, true, true, true, true, true, true, true, true] rfl rfl (any_of HT_.out (by kernel_rfl)) (fun _ _ _ h => h) (Or.inl ⟨by rfl, ?_⟩) ?_ ?_
         rotate_left
         ·
          intro w'
          go_simp
          with_reducible rfl
         rotate_left
         ·
          simp only [Act.put, List.setIfInBounds_toArray, List.set_cons_zero, List.set_cons_succ, i64_w, i32_w, IntKind.wrap_u8, IntKind.wrap_u32]
          rfl
         refine done_ (done_of HT_.out (by kernel_rfl)) ?_
         try go_wp2
         go_ret
         exact ⟨by first | rfl | (simp [errW_none, errW_some] <;> rfl) | (simp [*, errW_none, errW_some] <;> rfl), by repeat (first | (with_reducible first | exact HB.out | apply below_alloc | apply pw_below_drewN | apply below_drew1 | refine below_set ?_ GE686.out) | exact HB.out)⟩
        ·
         rw [if_neg c23] at H
         have c23b0 : decide (a0_0 < 1) = false := decide_eq_false c23
         clear c23
         by_cases c25 : a0_0 > (l1.length : Int)
         ·
          rw [if_pos c25] at H
          have c25b0 : decide ((l1.length : Int) < a0_0) = true := decide_eq_true c25
          clear c25
          obtain rfl := Option.some.inj H
          try go_wp2
          have n0_ := Aside0.mk (blk_drew BK686.out)
          have n1_ := Aside0.mk (below_drew1 HB.out)
          clear BK686
          clear HB
          have BK686 := n0_
          have HB := n1_
          clear n0_ n1_
          refine start_ (n := 22) (S := fun w' => w'.cell? ⟨gb686, 0, none⟩ = some (.int .i64 a0_0) ∧ w'.cell? ⟨gb686, 1, none⟩ = some (.int .i64 a0_1) ∧ w'.cell? ⟨gb686, 2, none⟩ = some (.int .u8 a0_2) ∧ w'.cell? ⟨gb686, 3, none⟩ = some (.int .i64 a0_3) ∧ w'.cell? ⟨gb686, 4, none⟩ = some (.int .i64 a0_4)) (ds := []) #[false, false, false, false, false, false, false, false, false, false, false, false, false, false, false, false, false, false, false, false, false, false] (by kernel_rfl) rfl rfl ⟨(blk_cell BK686.out 0).trans rfl, (blk_cell BK686.out 1).trans rfl, (blk_cell BK686.out 2).trans rfl, (blk_cell BK686.out 3).trans rfl, (blk_cell BK686.out 4).trans rfl⟩ (fun hHeld => ?_); refine with_tabW rela_Check.tab12 rela_Check.bits12 (fun HT_ HW_ => ?_)
          generalize wr.drew = w26 at BK686 HB hHeld ⊢
          refine pure_ (i := 0) (N := some 31) (v := ?_) (a' := ?_) #[true, false, false, false, false, false, false, false, false, false, false, false, false, false, false, false, false, false, false, false, false, false] rfl rfl (any_of HT_.out (by kernel_rfl)) (fun _ _ _ h => h) (Or.inl ⟨by rfl, ?_⟩) ?_ ?_
          rotate_left
          ·
           intro w'
           go_simp
           with_reducible rfl
          rotate_left
          ·
           simp only [Act.put, List.setIfInBounds_toArray, List.set_cons_zero, List.set_cons_succ, i64_w, i32_w, IntKind.wrap_u8, IntKind.wrap_u32]
           rfl
          refine take_ (i := 1) (N := some 32) (v := ?_) (a' := ?_) #[true, true, false, false, false, false, false, false, false, false, false, false, false, false, false, false, false, false, false, false, false, false] rfl rfl (take_ofW HT_.out HW_.out (by kernel_rfl)) (fun _ _ _ h => h) (Or.inl ⟨by rfl, ?_⟩) hHeld ?_ ?_
          rotate_left
          ·
           rintro w' ⟨s0, s1, s2, s3, s4⟩
           go_simp
           with_reducible rfl
          rotate_left
          ·
           simp only [Act.put, List.setIfInBounds_toArray, List.set_cons_zero, List.set_cons_succ, i64_w, i32_w, IntKind.wrap_u8, IntKind.wrap_u32]
           rfl
          refine pure_ (i := 2) (N := some 33) (v := ?_) (a' := ?_) #[true, true, true, false, false, false, false, false, false, false, false, false, false, false, false, false, false, false, false, false, false, false] rfl rfl (any_of HT_.out (by kernel_rfl)) (fun _ _ _ h => h) (Or.inl ⟨by rfl, ?_⟩) ?_ ?_
          rotate_left
          ·
           intro w'
           go_simp
           with_reducible rfl
          rotate_left
          ·
           simp only [Act.put, List.setIfInBounds_toArray, List.set_cons_zero, List.set_cons_succ, i64_w, i32_w, IntKind.wrap_u8, IntKind.wrap_u32]
           rfl
          refine pure_ (i := 3) (N := some 34) (v := ?_) (a' := ?_) #[true, true, true, true, false, false, false, false, false, false, false, false, false, false, false, false, false, false, false, false, false, false] rfl rfl (any_of HT_.out (by kernel_rfl)) (fun _ _ _ h => h) (Or.inl ⟨by rfl, ?_⟩) ?_ ?_
          rotate_left
          ·
           intro w'
           go_simp
           with_reducible rfl
          rotate_left
          ·
           simp only [Act.put, List.setIfInBounds_toArray, List.set_cons_zero, List.set_cons_succ, i64_w, i32_w, IntKind.wrap_u8, IntKind.wrap_u32]
           rfl
          refine pure_ (i := 4) (N := some 35) (v := ?_) (a' := ?_) #[true, true, true, true, true, false, false, false, false, false, false, false, false, false, false, false, false, false, false, false, false, false] rfl rfl (any_of HT_.out (by kernel_rfl)) (fun _ _ _ h => h) (Or.inl ⟨by rfl, ?_⟩) ?_ ?_
          rotate_left
          ·
           intro w'
           go_simp
           with_reducible rfl
          rotate_left
          ·
           simp only [Act.put, List.setIfInBounds_toArray, List.set_cons_zero, List.set_cons_succ, i64_w, i32_w, IntKind.wrap_u8, IntKind.wrap_u32]
           rfl
          refine pure_ (i := 6) (N := some 37) (v := ?_) (a' := ?_) #[true, true, true, true, true, false, true, false, false, false, false, false, false, false, false, false, false, false, false, false, false, false] rfl rfl (any_of HT_.out (by kernel_rfl)) (fun _ _ _ h => h) (Or.inl ⟨by rfl, ?_⟩) ?_ ?_
          rotate_left
          ·
           intro w'
           go_simp
           with_reducible rfl
          rotate_left
          ·
           simp only [Act.put, List.setIfInBounds_toArray, List.set_cons_zero, List.set_cons_succ, i64_w, i32_w, IntKind.wrap_u8, IntKind.wrap_u32]
           rfl
          refine pure_ (i := 7) (N := some 38) (v := ?_) (a' := ?_) #[true, true, true, true, true, false, true, true, false, false, false, false, false, false, false, false, false, false, false, false, false, false] rfl rfl (any_of HT_.out (by kernel_rfl)) (fun _ _ _ h => h) (Or.inl ⟨by rfl, ?_⟩) ?_ ?_
          rotate_left
          ·
           intro w'
           go_simp
           with_reducible rfl
          rotate_left
          ·
           simp only [Act.put, List.setIfInBounds_toArray, List.set_cons_zero, List.set_cons_succ, i64_w, i32_w, IntKind.wrap_u8, IntKind.wrap_u32]
           rfl
          refine take_ (i := 5) (N := some 36) (v := ?_) (a' := ?_) #[true, true, true, true, true, true, true, true, false, false, false, false, false, false, false, false, false, false, false, false, false, false] rfl rfl (take_ofW HT_.out HW_.out (by kernel_rfl)) (fun _ _ _ h => h) (Or.inl ⟨by rfl, ?_⟩) hHeld ?_ ?_
          rotate_left
          ·
           rintro w' ⟨s0, s1, s2, s3, s4⟩
           go_simp
           with_reducible rfl
          rotate_left
          ·
           simp only [Act.put, List.setIfInBounds_toArray, List.set_cons_zero, List.set_cons_succ, i64_w, i32_w, IntKind.wrap_u8, IntKind.wrap_u32]
           rfl
          refine pure_ (i := 8) (N := some 39) (v := ?_) (a' := ?_) #[true, true, true, true, true, true, true, true, true, false, false, false, false, false, false, false, false, false, false, false, false, false] rfl rfl (any_of HT_.out (by kernel_rfl)) (fun _ _ _ h => h) (Or.inl ⟨by rfl, ?_⟩) ?_ ?_
          rotate_left
          ·
           intro w'
           go_simp
           with_reducible rfl
          rotate_left
          ·
           simp only [Act.put, List.setIfInBounds_toArray, List.set_cons_zero, List.set_cons_succ, i64_w, i32_w, IntKind.wrap_u8, IntKind.wrap_u32]
           rfl
          refine pure_ (i := 9) (N := some 40) (v := ?_) (a' := ?_) #[true, true, true, true, true, true, true, true, true, true, false, false, false, false, false, false, false, false, false, false, false, false] rfl rfl (any_of HT_.out (by kernel_rfl)) (fun _ _ _ h => h) (Or.inl ⟨by rfl, ?_⟩) ?_ ?_
          rotate_left
          ·
           intro w'
           go_simp
           with_reducible rfl
          rotate_left
          ·
           simp only [Act.put, List.setIfInBounds_toArray, List.set_cons_zero, List.set_cons_succ, i64_w, i32_w, IntKind.wrap_u8, IntKind.wrap_u32]
           rfl
          refine pure_ (i := 10) (N := some 41) (v := ?_) (a' := ?_) #[true, true, true, true, true, true, true, true, true, true, true, false, false, false, false, false, false, false, false, false, false, false] rfl rfl (any_of HT_.out (by kernel_rfl)) (fun _ _ _ h => h) (Or.inl ⟨by rfl, ?_⟩) ?_ ?_
          rotate_left
          ·
           intro w'
           go_simp
           with_reducible rfl
          rotate_left
          ·
           simp only [Act.put, List.setIfInBounds_toArray, List.set_cons_zero, List.set_cons_succ, i64_w, i32_w, IntKind.wrap_u8, IntKind.wrap_u32]
           rfl
          refine pure_ (i := 11) (N := some 42) (v := undef) (a' := ?_) #[true, true, true, true, true, true, true, true, true, true, true, true, false, false, false, false, false, false, false, false, false, false] rfl rfl (any_of HT_.out (by kernel_rfl)) (fun _ _ _ h => h) (Or.inr ⟨by rfl, rfl⟩) ?_ ?_
          rotate_left
          ·
           simp only [Act.put, List.setIfInBounds_toArray, List.set_cons_zero, List.set_cons_succ, i64_w, i32_w, IntKind.wrap_u8, IntKind.wrap_u32]
           rfl
          refine pure_ (i := 12) (N := some 43) (v := undef) (a' := ?_) #[true, true, true, true, true, true, true, true, true, true, true, true, true, false, false, false, false, false, false, false, false, false] rfl rfl (any_of HT_.out (by kernel_rfl)) (fun _ _ _ h => h) (Or.inr ⟨by rfl, rfl⟩) ?_ ?_
          rotate_left
          ·
           simp only [Act.put, List.setIfInBounds_toArray, List.set_cons_zero, List.set_cons_succ, i64_w, i32_w, IntKind.wrap_u8, IntKind.wrap_u32]
           rfl
          refine pure_ (i := 13) (N := some 44) (v := undef) (a' := ?_) #[true, true, true, true, true, true, true, true, true, true, true, true, true, true, false, false, false, false, false, false, false, false] rfl rfl (any_of HT_.out (by kernel_rfl)) (fun _ _ _ h => h) (Or.inr ⟨by rfl, rfl⟩) ?_ ?_
          rotate_left
          ·
           simp only [Act.put, List.setIfInBounds_toArray, List.set_cons_zero, List.set_cons_succ, i64_w, i32_w, IntKind.wrap_u8, IntKind.wrap_u32]
           rfl
          refine pure_ (i := 14) (N := some 45) (v := undef) (a' := ?_) #[true, true, true, true, true, true, true, true, true, true, true, true, true, true, true, false, false, false, false, false, false, false] rfl rfl (any_of HT_.out (by kernel_rfl)) (fun _ _ _ h => h) (Or.inr ⟨by rfl, rfl⟩) ?_ ?_
          rotate_left
          ·
           simp only [Act.put, List.setIfInBounds_toArray, List.set_cons_zero, List.set_cons_succ, i64_w, i32_w, IntKind.wrap_u8, IntKind.wrap_u32]
           rfl
          refine pure_ (i := 15) (N := some 46) (v := undef) (a' := ?_) #[true, true, true, true, true, true, true, true, true, true, true, true, true, true, true, true, false, false, false, false, false, false] rfl rfl (any_of HT_.out (by kernel_rfl)) (fun _ _ _ h => h) (Or.inr ⟨by rfl, rfl⟩) ?_ ?_
          rotate_left
          ·
           simp only [Act.put, List.setIfInBounds_toArray, List.set_cons_zero, List.set_cons_succ, i64_w, i32_w, IntKind.wrap_u8, IntKind.wrap_u32]
           rfl
          refine pure_ (i := 16) (N := some 47) (v := undef) (a' := ?_) #[true, true, true, true, true, true, true, true, true, true, true, true, true, true, true, true, true, false, false, false, false, false] rfl rfl (any_of HT_.out (by kernel_rfl)) (fun _ _ _ h => h) (Or.inr ⟨by rfl, rfl⟩) ?_ ?_
          rotate_left
          ·
           simp only [Act.put, List.setIfInBounds_toArray, List.set_cons_zero, List.set_cons_succ, i64_w, i32_w, IntKind.wrap_u8, IntKind.wrap_u32]
           rfl
          refine pure_ (i := 17) (N := some 48) (v := undef) (a' := ?_) #[true, true, true, true, true, true, true, true, true, true, true, true, true, true, true, true, true, true, false, false, false, false] rfl rfl (any_of HT_.out (by kernel_rfl)) (fun _ _ _ h => h) (Or.inr ⟨by rfl, rfl⟩) ?_ ?_
          rotate_left
          ·
           simp only [Act.put, List.setIfInBounds_toArray, List.set_cons_zero, List.set_cons_succ, i64_w, i32_w, IntKind.wrap_u8, IntKind.wrap_u32]
           rfl
          refine pure_ (i := 18) (N := some 49) (v := undef) (a' := ?_) #[true, true, true, true, true, true, true, true, true, true, true, true, true, true, true, true, true, true, true, false, false, false] rfl rfl (any_of HT_.out (by kernel_rfl)) (fun _ _ _ h => h) (Or.inr ⟨by rfl, rfl⟩) ?_ ?_
          rotate_left
          ·
           simp only [Act.put, List.setIfInBounds_toArray, List.set_cons_zero, List.set_cons_succ, i64_w, i32_w, IntKind.wrap_u8, IntKind.wrap_u32]
           rfl
          refine pure_ (i := 19) (N := some 50) (v := undef) (a' := ?_) #[true, true, true, true, true, true, true, true, true, true, true, true, true, true, true, true, true, true, true, true, false, false] rfl rfl (any_of HT_.out (by kernel_rfl)) (fun _ _ _ h => h) (Or.inr ⟨by rfl, rfl⟩) ?_ ?_
          rotate_left
          ·
           simp only [Act.put, List.setIfInBounds_toArray, List.set_cons_zero, List.set_cons_succ, i64_w, i32_w, IntKind.wrap_u8, IntKind.wrap_u32]
           rfl
          refine pure_ (i := 20) (N := some 51) (v := undef) (a' := ?_) #[true, true, true, true, true, true, true, true, true, true, true, true, true, true, true, true, true, true, true, true, true, false] rfl rfl (any_of HT_.out (by kernel_rfl)) (fun _ _ _ h => h) (Or.inr ⟨by rfl, rfl⟩) ?_ ?_
          rotate_left
          ·
           simp only [Act.put, List.setIfInBounds_toArray, List.set_cons_zero, List.set_cons_succ, i64_w, i32_w, IntKind.wrap_u8, IntKind.wrap_u32]
           rfl
          refine pure_ (i := 21) (N := some 52) (v := ?_) (a' := ?_) #[true, true, true, true, true, true, true, true, true, true, true, true, true, true, true, true, true, true, true, true, true, true] rfl rfl (any_of HT_.out (by kernel_rfl)) (fun _ _ _ h => h) (Or.inl ⟨by rfl, ?_⟩) ?_ ?_
          rotate_left
          ·
           intro w'
           go_simp
           with_reducible rfl
          rotate_left
          ·
           simp only [Act.put, List.setIfInBounds_toArray, List.set_cons_zero, List.set_cons_succ, i64_w, i32_w, IntKind.wrap_u8, IntKind.wrap_u32]
           rfl
          refine done_ (done_of HT_.out (by kernel_rfl)) ?_
          try go_wp2
          go_ret
          exact ⟨by first | rfl | (simp [errW_none, errW_some] <;> rfl) | (simp [*, errW_none, errW_some] <;> rfl), by repeat (first | (with_reducible first | exact HB.out | apply below_alloc | apply pw_below_drewN | apply below_drew1 | refine below_set ?_ GE686.out) | exact HB.out)⟩
         ·
          rw [if_neg c25] at H
          have c25b0 : decide ((l1.length : Int) < a0_0) = false := decide_eq_false c25
          clear c25
          obtain ⟨ji27, hji27⟩ : ∃ j_ : Int, (wrap64 (a0_0 - 1)) = j_ := ⟨_, rfl⟩
          replace H : (if 0 ≤ (ji27) then (if (ji27) < (l1.length : Int) then ((rela_may.f k2 a0_0 a0_1 a0_2 a0_3 a0_4 ((rd_T36 l1 (ji27)).f0) ((rd_T36 l1 (ji27)).f1) ((rd_T36 l1 (ji27)).f2) ((rd_T36 l1 (ji27)).f3) a2).bind fun t691 => (if t691 = true then (some 0) else (some 8))) else (none)) else (none)) = some r := by first | (rw [hji27] at H; exact H) | (simp only [hji27] at H ⊢; exact H)
          have hji27w : (IntKind.i64.wrap (a0_0 - 1)) = ji27 := (i64_w _).trans hji27
          by_cases c28 : 0 ≤ (ji27)
          ·
           rw [if_pos c28] at H
           have c28b0 : decide (0 ≤ (ji27)) = true := decide_eq_true c28
           clear c28
           by_cases c29 : (ji27) < (l1.length : Int)
           ·
            rw [if_pos c29] at H
            have c29b0 : decide ((ji27) < (l1.length : Int)) = true := decide_eq_true c29
            clear c29
            replace H := Option.bind_eq_some_iff.mp H
            obtain ⟨t691, A300, H⟩ := H
            replace H : (if t691 = true then (some 0) else (some 8)) = some r := H
            have A30 := Aside0.mk A300
            clear A300
            by_cases c31 : t691 = true
            ·
             subst c31
             have H1 : (some 0) = some r := by rw [if_pos rfl] at H; exact H
             clear H
             have H := H1
             clear H1
             obtain rfl := Option.some.inj H
             try go_wp2
             have n0_ := Aside0.mk (blk_drew BK686.out)
             have n1_ := Aside0.mk (below_drew1 HB.out)
             clear BK686
             clear HB
             have BK686 := n0_
             have HB := n1_
             clear n0_ n1_
             have p690 : 0 ≤ ((ji27) : Int) := of_decide_eq_true (by first | (with_reducible assumption) | assumption)
             have q690 : (ji27) < (l1.length : Int) := of_decide_eq_true (by first | (with_reducible assumption) | assumption)
             obtain ⟨ad690, A690_2, c690_2, e690, hx690_0, hx690_1, hx690_2, hx690_3, hl690_2, hi690_2⟩ := at_T36 HR1.out (ji27) p690 q690
             have hw690_3 := hx690_3
             have hw690_2 := hx690_2
             have hw690_1 := hx690_1
             have hw690_0 := hx690_0
             cases e690
             replace hx690_0 := (HB.out.cell (World.block_lt_of_cell? w _ hx690_0)).trans hx690_0
             replace hx690_1 := (HB.out.cell (World.block_lt_of_cell? w _ hx690_1)).trans hx690_1
             replace hx690_2 := (HB.out.cell (World.block_lt_of_cell? w _ hx690_2)).trans hx690_2
             replace hx690_3 := (HB.out.cell (World.block_lt_of_cell? w _ hx690_3)).trans hx690_3
             have HR690_2 := Aside0.mk hi690_2
             have HC690_2 := Aside0.mk hl690_2
             clear hi690_2 hl690_2
             replace p690 := eq_true p690
             replace q690 := eq_true q690
             refine start_ (n := 22) (S := fun w' => w'.cell? ⟨gb686, 0, none⟩ = some (.int .i64 a0_0) ∧ w'.cell? ⟨gb686, 1, none⟩ = some (.int .i64 a0_1) ∧ w'.cell? ⟨gb686, 2, none⟩ = some (.int .u8 a0_2) ∧ w'.cell? ⟨gb686, 3, none⟩ = some (.int .i64 a0_3) ∧ w'.cell? ⟨gb686, 4, none⟩ = some (.int .i64 a0_4) ∧ w'.cell? (ad690.add (((ji27)).toNat * 4)) = some (.string ((rd_T36 l1 (ji27)).f0)) ∧ w'.cell? ⟨(ad690.add (((ji27)).toNat * 4)).block, (ad690.add (((ji27)).toNat * 4)).off + 1, none⟩ = some (.int .i64 ((rd_T36 l1 (ji27)).f1)) ∧ w'.cell? ⟨(ad690.add (((ji27)).toNat * 4)).block, (ad690.add (((ji27)).toNat * 4)).off + 2, none⟩ = some (.slice A690_2 ((rd_T36 l1 (ji27)).f2).length c690_2) ∧ w'.cell? ⟨(ad690.add (((ji27)).toNat * 4)).block, (ad690.add (((ji27)).toNat * 4)).off + 3, none⟩ = some (.int .i64 ((rd_T36 l1 (ji27)).f3))) (ds := []) #[false, false, false, false, false, false, false, false, false, false, false, false, false, false, false, false, false, false, false, false, false, false] (by kernel_rfl) rfl rfl ⟨(blk_cell BK686.out 0).trans rfl, (blk_cell BK686.out 1).trans rfl, (blk_cell BK686.out 2).trans rfl, (blk_cell BK686.out 3).trans rfl, (blk_cell BK686.out 4).trans rfl, ((HB.out.cell (World.block_lt_of_cell? w _ hw690_0)).trans hw690_0), ((HB.out.cell (World.block_lt_of_cell? w _ hw690_1)).trans hw690_1), ((HB.out.cell (World.block_lt_of_cell? w _ hw690_2)).trans hw690_2), ((HB.out.cell (World.block_lt_of_cell? w _ hw690_3)).trans hw690_3)⟩ (fun hHeld => ?_); refine with_tabW rela_Check.tab12 rela_Check.bits12 (fun HT_ HW_ => ?_)
             generalize wr.drew = w32 at BK686 HB HR690_2 hx690_0 hx690_1 hx690_2 hx690_3 hHeld ⊢
             refine pure_ (i := 0) (N := some 31) (v := ?_) (a' := ?_) #[true, false, false, false, false, false, false, false, false, false, false, false, false, false, false, false, false, false, false, false, false, false] rfl rfl (any_of HT_.out (by kernel_rfl)) (fun _ _ _ h => h) (Or.inl ⟨by rfl, ?_⟩) ?_ ?_
             rotate_left
             ·
              intro w'
              go_simp
              with_reducible rfl
             rotate_left
             ·
              simp only [Act.put, List.setIfInBounds_toArray, List.set_cons_zero, List.set_cons_succ, i64_w, i32_w, IntKind.wrap_u8, IntKind.wrap_u32]
              rfl
             refine take_ (i := 1) (N := some 32) (v := ?_) (a' := ?_) #[true, true, false, false, false, false, false, false, false, false, false, false, false, false, false, false, false, false, false, false, false, false] rfl rfl (take_ofW HT_.out HW_.out (by kernel_rfl)) (fun _ _ _ h => h) (Or.inl ⟨by rfl, ?_⟩) hHeld ?_ ?_
             rotate_left
             ·
              rintro w' ⟨s0, s1, s2, s3, s4, s5, s6, s7, s8⟩
              go_simp
              with_reducible rfl
             rotate_left
             ·
              simp only [Act.put, List.setIfInBounds_toArray, List.set_cons_zero, List.set_cons_succ, i64_w, i32_w, IntKind.wrap_u8, IntKind.wrap_u32]
              rfl
             refine pure_ (i := 2) (N := some 33) (v := ?_) (a' := ?_) #[true, true, true, false, false, false, false, false, false, false, false, false, false, false, false, false, false, false, false, false, false, false] rfl rfl (any_of HT_.out (by kernel_rfl)) (fun _ _ _ h => h) (Or.inl ⟨by rfl, ?_⟩) ?_ ?_
             rotate_left
             ·
              intro w'
              go_simp
              with_reducible rfl
             rotate_left
             ·
              simp only [Act.put, List.setIfInBounds_toArray, List.set_cons_zero, List.set_cons_succ, i64_w, i32_w, IntKind.wrap_u8, IntKind.wrap_u32]
              rfl
             refine pure_ (i := 3) (N := some 34) (v := ?_) (a' := ?_) #[true, true, true, true, false, false, false, false, false, false, false, false, false, false, false, false, false, false, false, false, false, false] rfl rfl (any_of HT_.out (by kernel_rfl)) (fun _ _ _ h => h) (Or.inl ⟨by rfl, ?_⟩) ?_ ?_
             rotate_left
             ·
              intro w'
              go_simp
              with_reducible rfl
             rotate_left
             ·
              simp only [Act.put, List.setIfInBounds_toArray, List.set_cons_zero, List.set_cons_succ, i64_w, i32_w, IntKind.wrap_u8, IntKind.wrap_u32]
              rfl
             refine pure_ (i := 4) (N := some 35) (v := ?_) (a' := ?_) #[true, true, true, true, true, false, false, false, false, false, false, false, false, false, false, false, false, false, false, false, false, false] rfl rfl (any_of HT_.out (by kernel_rfl)) (fun _ _ _ h => h) (Or.inl ⟨by rfl, ?_⟩) ?_ ?_
             rotate_left
             ·
              intro w'
              go_simp
              with_reducible rfl
             rotate_left
             ·
              simp only [Act.put, List.setIfInBounds_toArray, List.set_cons_zero, List.set_cons_succ, i64_w, i32_w, IntKind.wrap_u8, IntKind.wrap_u32]
              rfl
             refine pure_ (i := 6) (N := some 37) (v := ?_) (a' := ?_) #[true, true, true, true, true, false, true, false, false, false, false, false, false, false, false, false, false, false, false, false, false, false] rfl rfl (any_of HT_.out (by kernel_rfl)) (fun _ _ _ h => h) (Or.inl ⟨by rfl, ?_⟩) ?_ ?_
             rotate_left
             ·
              intro w'
              go_simp
              with_reducible rfl
             rotate_left
             ·
              simp only [Act.put, List.setIfInBounds_toArray, List.set_cons_zero, List.set_cons_succ, i64_w, i32_w, IntKind.wrap_u8, IntKind.wrap_u32]
              rfl
             refine pure_ (i := 7) (N := some 38) (v := ?_) (a' := ?_) #[true, true, true, true, true, false, true, true, false, false, false, false, false, false, false, false, false, false, false, false, false, false] rfl rfl (any_of HT_.out (by kernel_rfl)) (fun _ _ _ h => h) (Or.inl ⟨by rfl, ?_⟩) ?_ ?_
             rotate_left
             ·
              intro w'
              go_simp
              with_reducible rfl
             rotate_left
             ·
              simp only [Act.put, List.setIfInBounds_toArray, List.set_cons_zero, List.set_cons_succ, i64_w, i32_w, IntKind.wrap_u8, IntKind.wrap_u32]
              rfl
             refine take_ (i := 5) (N := some 36) (v := ?_) (a' := ?_) #[true, true, true, true, true, true, true, true, false, false, false, false, false, false, false, false, false, false, false, false, false, false] rfl rfl (take_ofW HT_.out HW_.out (by kernel_rfl)) (fun _ _ _ h => h) (Or.inl ⟨by rfl, ?_⟩) hHeld ?_ ?_
             rotate_left
             ·
              rintro w' ⟨s0, s1, s2, s3, s4, s5, s6, s7, s8⟩
              go_simp
              with_reducible rfl
             rotate_left
             ·
              simp only [Act.put, List.setIfInBounds_toArray, List.set_cons_zero, List.set_cons_succ, i64_w, i32_w, IntKind.wrap_u8, IntKind.wrap_u32]
              rfl
             refine pure_ (i := 8) (N := some 39) (v := ?_) (a' := ?_) #[true, true, true, true, true, true, true, true, true, false, false, false, false, false, false, false, false, false, false, false, false, false] rfl rfl (any_of HT_.out (by kernel_rfl)) (fun _ _ _ h => h) (Or.inl ⟨by rfl, ?_⟩) ?_ ?_
             rotate_left
             ·
              intro w'
              go_simp
              with_reducible rfl
             rotate_left
             ·
              simp only [Act.put, List.setIfInBounds_toArray, List.set_cons_zero, List.set_cons_succ, i64_w, i32_w, IntKind.wrap_u8, IntKind.wrap_u32]
              rfl
             refine pure_ (i := 9) (N := some 40) (v := ?_) (a' := ?_) #[true, true, true, true, true, true, true, true, true, true, false, false, false, false, false, false, false, false, false, false, false, false] rfl rfl (any_of HT_.out (by kernel_rfl)) (fun _ _ _ h => h) (Or.inl ⟨by rfl, ?_⟩) ?_ ?_
             rotate_left
             ·
              intro w'
              go_simp
              with_reducible rfl
             rotate_left
             ·
              simp only [Act.put, List.setIfInBounds_toArray, List.set_cons_zero, List.set_cons_succ, i64_w, i32_w, IntKind.wrap_u8, IntKind.wrap_u32]
              rfl
             refine pure_ (i := 10) (N := some 41) (v := ?_) (a' := ?_) #[true, true, true, true, true, true, true, true, true, true, true, false, false, false, false, false, false, false, false, false, false, false] rfl rfl (any_of HT_.out (by kernel_rfl)) (fun _ _ _ h => h) (Or.inl ⟨by rfl, ?_⟩) ?_ ?_
             rotate_left
             ·
              intro w'
              go_simp
              with_reducible rfl
             rotate_left
             ·
              simp only [Act.put, List.setIfInBounds_toArray, List.set_cons_zero, List.set_cons_succ, i64_w, i32_w, IntKind.wrap_u8, IntKind.wrap_u32]
              rfl
             refine pure_ (i := 12) (N := some 43) (v := ?_) (a' := ?_) #[true, true, true, true, true, true, true, true, true, true, true, false, true, false, false, false, false, false, false, false, false, false] rfl rfl (any_of HT_.out (by kernel_rfl)) (fun _ _ _ h => h) (Or.inl ⟨by rfl, ?_⟩) ?_ ?_
             rotate_left
             ·
              intro w'
              go_simp
              with_reducible rfl
             rotate_left
             ·
              simp only [Act.put, List.setIfInBounds_toArray, List.set_cons_zero, List.set_cons_succ, i64_w, i32_w, IntKind.wrap_u8, IntKind.wrap_u32]
              rfl
             refine pure_ (i := 13) (N := some 44) (v := ?_) (a' := ?_) #[true, true, true, true, true, true, true, true, true, true, true, false, true, true, false, false, false, false, false, false, false, false] rfl rfl (any_of HT_.out (by kernel_rfl)) (fun _ _ _ h => h) (Or.inl ⟨by rfl, ?_⟩) ?_ ?_
             rotate_left
             ·
              intro w'
              go_simp
              with_reducible rfl
             rotate_left
             ·
              simp only [Act.put, List.setIfInBounds_toArray, List.set_cons_zero, List.set_cons_succ, i64_w, i32_w, IntKind.wrap_u8, IntKind.wrap_u32]
              rfl
             refine pure_ (i := 18) (N := some 49) (v := ?_) (a' := ?_) #[true, true, true, true, true, true, true, true, true, true, true, false, true, true, false, false, false, false, true, false, false, false] rfl rfl (any_of HT_.out (by kernel_rfl)) (fun _ _ _ h => h) (Or.inl ⟨by rfl, ?_⟩) ?_ ?_
             rotate_left
             ·
              intro w'
              go_simp
              with_reducible rfl
             rotate_left
             ·
              simp only [Act.put, List.setIfInBounds_toArray, List.set_cons_zero, List.set_cons_succ, i64_w, i32_w, IntKind.wrap_u8, IntKind.wrap_u32]
              rfl
             refine take_ (i := 11) (N := some 42) (v := ?_) (a' := ?_) #[true, true, true, true, true, true, true, true, true, true, true, true, true, true, false, false, false, false, true, false, false, false] rfl rfl (take_ofW HT_.out HW_.out (by kernel_rfl)) (fun _ _ _ h => h) (Or.inl ⟨by rfl, ?_⟩) hHeld ?_ ?_
             rotate_left
             ·
              rintro w' ⟨s0, s1, s2, s3, s4, s5, s6, s7, s8⟩
              go_simp
              with_reducible rfl
             rotate_left
             ·
              simp only [Act.put, List.setIfInBounds_toArray, List.set_cons_zero, List.set_cons_succ, i64_w, i32_w, IntKind.wrap_u8, IntKind.wrap_u32]
              rfl
             refine take_ (i := 14) (N := some 45) (v := ?_) (a' := ?_) #[true, true, true, true, true, true, true, true, true, true, true, true, true, true, true, false, false, false, true, false, false, false] rfl rfl (take_ofW HT_.out HW_.out (by kernel_rfl)) (fun _ _ _ h => h) (Or.inl ⟨by rfl, ?_⟩) hHeld ?_ ?_
             rotate_left
             ·
              rintro w' ⟨s0, s1, s2, s3, s4, s5, s6, s7, s8⟩
              go_simp
              with_reducible rfl
             rotate_left
             ·
              simp only [Act.put, List.setIfInBounds_toArray, List.set_cons_zero, List.set_cons_succ, i64_w, i32_w, IntKind.wrap_u8, IntKind.wrap_u32]
              rfl
             refine pure_ (i := 15) (N := some 46) (v := ?_) (a' := ?_) #[true, true, true, true, true, true, true, true, true, true, true, true, true, true, true, true, false, false, true, false, false, false] rfl rfl (any_of HT_.out (by kernel_rfl)) (fun _ _ _ h => h) (Or.inl ⟨by rfl, ?_⟩) ?_ ?_
             rotate_left
             ·
              intro w'
              go_simp
              with_reducible rfl
             rotate_left
             ·
              simp only [Act.put, List.setIfInBounds_toArray, List.set_cons_zero, List.set_cons_succ, i64_w, i32_w, IntKind.wrap_u8, IntKind.wrap_u32]
              rfl
             refine pure_ (i := 16) (N := some 47) (v := ?_) (a' := ?_) #[true, true, true, true, true, true, true, true, true, true, true, true, true, true, true, true, true, false, true, false, false, false] rfl rfl (any_of HT_.out (by kernel_rfl)) (fun _ _ _ h => h) (Or.inl ⟨by rfl, ?_⟩) ?_ ?_
             rotate_left
             ·
              intro w'
              go_simp
              with_reducible rfl
             rotate_left
             ·
              simp only [Act.put, List.setIfInBounds_toArray, List.set_cons_zero, List.set_cons_succ, i64_w, i32_w, IntKind.wrap_u8, IntKind.wrap_u32]
              rfl
             refine take_ (i := 17) (N := some 48) (v := ?_) (a' := ?_) #[true, true, true, true, true, true, true, true, true, true, true, true, true, true, true, true, true, true, true, false, false, false] rfl rfl (take_ofW HT_.out HW_.out (by kernel_rfl)) (fun _ _ _ h => h) (Or.inl ⟨by rfl, ?_⟩) hHeld ?_ ?_
             rotate_left
             ·
              rintro w' ⟨s0, s1, s2, s3, s4, s5, s6, s7, s8⟩
              go_simp
              with_reducible rfl
             rotate_left
             ·
              simp only [Act.put, List.setIfInBounds_toArray, List.set_cons_zero, List.set_cons_succ, i64_w, i32_w, IntKind.wrap_u8, IntKind.wrap_u32]
              rfl
             refine one_ (i := 19) (N := some 50) #[true, true, true, true, true, true, true, true, true, true, true, true, true, true, true, true, true, true, true, true, false, false] rfl rfl (one_of HT_.out (by kernel_rfl)) (by decide) (fun K hK => ?_)
             refine goes_ Try.func90 (by kernel_rfl) rfl #[.agg #[.int .i64 a0_0, .int .i64 a0_1, .int .u8 a0_2, .int .i64 a0_3, .int .i64 a0_4], .agg #[.string ((rd_T36 l1 (ji27)).f0), .int .i64 ((rd_T36 l1 (ji27)).f1), .slice A690_2 ((rd_T36 l1 (ji27)).f2).length c690_2, .int .i64 ((rd_T36 l1 (ji27)).f3)], .int .i64 a2] (by rfl) rfl rfl (by (try simp only [List.map_toArray, List.map_cons, List.map_nil]); first | done | (simp only [hji27]; rfl) | rfl | (simp only [List.length_drop, List.length_take]; rfl)) ?_
             with_reducible refine (rela_may.calls k2 a0_0 a0_1 a0_2 a0_3 a0_4 ((rd_T36 l1 (ji27)).f0) ((rd_T36 l1 (ji27)).f1) _ _ ((rd_T36 l1 (ji27)).f2) ((rd_T36 l1 (ji27)).f3) a2 true _ ?side1 ?side2 A30.out).mono ?_
             (case side1 => repeat (first | exact (Kd.C_below HR690_2.out HB.out) | (with_reducible refine Kd.C_alloc ?_ _) | (with_reducible refine Kd.C_drewN ?_ _) | (with_reducible refine Kd.C_drew ?_)))
             (case side2 => exact HC690_2.out)
             rintro e w33 ⟨rfl, hb⟩
             refine ⟨_, rfl, ?_⟩
             have n0_ := Aside0.mk (blk_below (g := gb686) (o := .cells #[.int .i64 a0_0, .int .i64 a0_1, .int .u8 a0_2, .int .i64 a0_3, .int .i64 a0_4] 71 (0, 0)) (by (with_reducible repeat (first | refine blk_drewN ?_ _ | refine blk_drew ?_ | refine blk_alloc ?_ _)); exact BK686.out) hb)
             have n1_ := Aside0.mk (below_step (by repeat (first | (with_reducible first | exact HB.out | apply below_alloc | apply pw_below_drewN | apply below_drew1 | refine below_set ?_ GE686.out) | exact HB.out)) hb)
             clear BK686
             clear HB
             have BK686 := n0_
             have HB := n1_
             clear n0_ n1_
             (try clear hb)
             (try clear hb2)
             (try clear hk)
             (try clear hi)
             refine hK.out _ _ ⟨(blk_cell BK686.out 0).trans rfl, (blk_cell BK686.out 1).trans rfl, (blk_cell BK686.out 2).trans rfl, (blk_cell BK686.out 3).trans rfl, (blk_cell BK686.out 4).trans rfl, ((HB.out.cell (World.block_lt_of_cell? w _ hw690_0)).trans hw690_0), ((HB.out.cell (World.block_lt_of_cell? w _ hw690_1)).trans hw690_1), ((HB.out.cell (World.block_lt_of_cell? w _ hw690_2)).trans hw690_2), ((HB.out.cell (World.block_lt_of_cell? w _ hw690_3)).trans hw690_3)⟩ (fun hHeld => ?_)
             clear hK K
             refine norm_ (a' := ?_) ?_ ?_
             rotate_left
             ·
              show Act.put _ (some 50) _ = _
              simp only [Act.put, List.setIfInBounds_toArray, List.set_cons_zero, List.set_cons_succ, i64_w, i32_w, IntKind.wrap_u8, IntKind.wrap_u32]
              rfl
             refine pure_ (i := 20) (N := some 51) (v := ?_) (a' := ?_) #[true, true, true, true, true, true, true, true, true, true, true, true, true, true, true, true, true, true, true, true, true, false] rfl rfl (any_of HT_.out (by kernel_rfl)) (fun _ _ _ h => h) (Or.inl ⟨by rfl, ?_⟩) ?_ ?_
             rotate_left
             ·
              intro w'
              go_simp
              with_reducible rfl
             rotate_left
             ·
              simp only [Act.put, List.setIfInBounds_toArray, List.set_cons_zero, List.set_cons_succ, i64_w, i32_w, IntKind.wrap_u8, IntKind.wrap_u32]
              rfl
             refine pure_ (i := 21) (N := some 52) (v := ?_) (a' := ?_) #[true, true, true, true, true, true, true, true, true, true, true, true, true, true, true, true, true, true, true, true, true, true] rfl rfl (any_of HT_.out (by kernel_rfl)) (fun _ _ _ h => h) (Or.inl ⟨by rfl, ?_⟩) ?_ ?_
             rotate_left
             ·
              intro w'
              go_simp
              with_reducible rfl
             rotate_left
             ·
              simp only [Act.put, List.setIfInBounds_toArray, List.set_cons_zero, List.set_cons_succ, i64_w, i32_w, IntKind.wrap_u8, IntKind.wrap_u32]
              rfl
             refine done_ (done_of HT_.out (by kernel_rfl)) ?_
             try go_wp2
             go_ret
             exact ⟨by first | rfl | (simp [errW_none, errW_some] <;> rfl) | (simp only [← hji27]; first | rfl | (simp [errW_none, errW_some] <;> rfl)) | (simp [*, errW_none, errW_some] <;> rfl), by repeat (first | (with_reducible first | exact HB.out | apply below_alloc | apply pw_below_drewN | apply below_drew1 | refine below_set ?_ GE686.out) | exact HB.out)⟩
            ·
             replace c31 := Bool.eq_false_iff.mpr c31
             subst c31
             have H1 : (some 8) = some r := by rw [if_neg (show ¬ (false = true) by decide)] at H; exact H
             clear H
             have H := H1
             clear H1
             obtain rfl := Option.some.inj H
             try go_wp2
             have n0_ := Aside0.mk (blk_drew BK686.out)
             have n1_ := Aside0.mk (below_drew1 HB.out)
             clear BK686
             clear HB
             have BK686 := n0_
             have HB := n1_
             clear n0_ n1_
             have p690 : 0 ≤ ((ji27) : Int) := of_decide_eq_true (by first | (with_reducible assumption) | assumption)
             have q690 : (ji27) < (l1.length : Int) := of_decide_eq_true (by first | (with_reducible assumption) | assumption)
             obtain ⟨ad690, A690_2, c690_2, e690, hx690_0, hx690_1, hx690_2, hx690_3, hl690_2, hi690_2⟩ := at_T36 HR1.out (ji27) p690 q690
             have hw690_3 := hx690_3
             have hw690_2 := hx690_2
             have hw690_1 := hx690_1
             have hw690_0 := hx690_0
             cases e690
             replace hx690_0 := (HB.out.cell (World.block_lt_of_cell? w _ hx690_0)).trans hx690_0
             replace hx690_1 := (HB.out.cell (World.block_lt_of_cell? w _ hx690_1)).trans hx690_1
             replace hx690_2 := (HB.out.cell (World.block_lt_of_cell? w _ hx690_2)).trans hx690_2
             replace hx690_3 := (HB.out.cell (World.block_lt_of_cell? w _ hx690_3)).trans hx690_3
             have HR690_2 := Aside0.mk hi690_2
             have HC690_2 := Aside0.mk hl690_2
             clear hi690_2 hl690_2
             replace p690 := eq_true p690
             replace q690 := eq_true q690
             refine start_ (n := 22) (S := fun w' => w'.cell? ⟨gb686, 0, none⟩ = some (.int .i64 a0_0) ∧ w'.cell? ⟨gb686, 1, none⟩ = some (.int .i64 a0_1) ∧ w'.cell? ⟨gb686, 2, none⟩ = some (.int .u8 a0_2) ∧ w'.cell? ⟨gb686, 3, none⟩ = some (.int .i64 a0_3) ∧ w'.cell? ⟨gb686, 4, none⟩ = some (.int .i64 a0_4) ∧ w'.cell? (ad690.add (((ji27)).toNat * 4)) = some (.string ((rd_T36 l1 (ji27)).f0)) ∧ w'.cell? ⟨(ad690.add (((ji27)).toNat * 4)).block, (ad690.add (((ji27)).toNat * 4)).off + 1, none⟩ = some (.int .i64 ((rd_T36 l1 (ji27)).f1)) ∧ w'.cell? ⟨(ad690.add (((ji27)).toNat * 4)).block, (ad690.add (((ji27)).toNat * 4)).off + 2, none⟩ = some (.slice A690_2 ((rd_T36 l1 (ji27)).f2).length c690_2) ∧ w'.cell? ⟨(ad690.add (((ji27)).toNat * 4)).block, (ad690.add (((ji27)).toNat * 4)).off + 3, none⟩ = some (.int .i64 ((rd_T36 l1 (ji27)).f3))) (ds := []) #[false, false, false, false, false, false, false, false, false, false, false, false, false, false, false, false, false, false, false, false, false, false] (by kernel_rfl) rfl rfl ⟨(blk_cell BK686.out 0).trans rfl, (blk_cell BK686.out 1).trans rfl, (blk_cell BK686.out 2).trans rfl, (blk_cell BK686.out 3).trans rfl, (blk_cell BK686.out 4).trans rfl, ((HB.out.cell (World.block_lt_of_cell? w _ hw690_0)).trans hw690_0), ((HB.out.cell (World.block_lt_of_cell? w _ hw690_1)).trans hw690_1), ((HB.out.cell (World.block_lt_of_cell? w _ hw690_2)).trans hw690_2), ((HB.out.cell (World.block_lt_of_cell? w _ hw690_3)).trans hw690_3)⟩ (fun hHeld => ?_); refine with_tabW rela_Check.tab12 rela_Check.bits12 (fun HT_ HW_ => ?_)
             generalize wr.drew = w34 at BK686 HB HR690_2 hx690_0 hx690_1 hx690_2 hx690_3 hHeld ⊢
             refine pure_ (i := 0) (N := some 31) (v := ?_) (a' := ?_) #[true, false, false, false, false, false, false, false, false, false, false, false, false, false, false, false, false, false, false, false, false, false] rfl rfl (any_of HT_.out (by kernel_rfl)) (fun _ _ _ h => h) (Or.inl ⟨by rfl, ?_⟩) ?_ ?_
             rotate_left
             ·
              intro w'
              go_simp
              with_reducible rfl
             rotate_left
             ·
              simp only [Act.put, List.setIfInBounds_toArray, List.set_cons_zero, List.set_cons_succ, i64_w, i32_w, IntKind.wrap_u8, IntKind.wrap_u32]
              rfl
             refine take_ (i := 1) (N := some 32) (v := ?_) (a' := ?_) #[true, true, false, false, false, false, false, false, false, false, false, false, false, false, false, false, false, false, false, false, false, false] rfl rfl (take_ofW HT_.out HW_.out (by kernel_rfl)) (fun _ _ _ h => h) (Or.inl ⟨by rfl, ?_⟩) hHeld ?_ ?_
             rotate_left
             ·
              rintro w' ⟨s0, s1, s2, s3, s4, s5, s6, s7, s8⟩
              go_simp
              with_reducible rfl
             rotate_left
             ·
              simp only [Act.put, List.setIfInBounds_toArray, List.set_cons_zero, List.set_cons_succ, i64_w, i32_w, IntKind.wrap_u8, IntKind.wrap_u32]
              rfl
             refine pure_ (i := 2) (N := some 33) (v := ?_) (a' := ?_) #[true, true, true, false, false, false, false, false, false, false, false, false, false, false, false, false, false, false, false, false, false, false] rfl rfl (any_of HT_.out (by kernel_rfl)) (fun _ _ _ h => h) (Or.inl ⟨by rfl, ?_⟩) ?_ ?_
             rotate_left
             ·
              intro w'
              go_simp
              with_reducible rfl
             rotate_left
             ·
              simp only [Act.put, List.setIfInBounds_toArray, List.set_cons_zero, List.set_cons_succ, i64_w, i32_w, IntKind.wrap_u8, IntKind.wrap_u32]
              rfl
             refine pure_ (i := 3) (N := some 34) (v := ?_) (a' := ?_) #[true, true, true, true, false, false, false, false, false, false, false, false, false, false, false, false, false, false, false, false, false, false] rfl rfl (any_of HT_.out (by kernel_rfl)) (fun _ _ _ h => h) (Or.inl ⟨by rfl, ?_⟩) ?_ ?_
             rotate_left
             ·
              intro w'
              go_simp
              with_reducible rfl
             rotate_left
             ·
              simp only [Act.put, List.setIfInBounds_toArray, List.set_cons_zero, List.set_cons_succ, i64_w, i32_w, IntKind.wrap_u8, IntKind.wrap_u32]
              rfl
             refine pure_ (i := 4) (N := some 35) (v := ?_) (a' := ?_) #[true, true, true, true, true, false, false, false, false, false, false, false, false, false, false, false, false, false, false, false, false, false] rfl rfl (any_of HT_.out (by kernel_rfl)) (fun _ _ _ h => h) (Or.inl ⟨by rfl, ?_⟩) ?_ ?_
             rotate_left
             ·
              intro w'
              go_simp
              with_reducible rfl
             rotate_left
             ·
              simp only [Act.put, List.setIfInBounds_toArray, List.set_cons_zero, List.set_cons_succ, i64_w, i32_w, IntKind.wrap_u8, IntKind.wrap_u32]
              rfl
             refine pure_ (i := 6) (N := some 37) (v := ?_) (a' := ?_) #[true, true, true, true, true, false, true, false, false, false, false, false, false, false, false, false, false, false, false, false, false, false] rfl rfl (any_of HT_.out (by kernel_rfl)) (fun _ _ _ h => h) (Or.inl ⟨by rfl, ?_⟩) ?_ ?_
             rotate_left
             ·
              intro w'
              go_simp
              with_reducible rfl
             rotate_left
             ·
              simp only [Act.put, List.setIfInBounds_toArray, List.set_cons_zero, List.set_cons_succ, i64_w, i32_w, IntKind.wrap_u8, IntKind.wrap_u32]
              rfl
             refine pure_ (i := 7) (N := some 38) (v := ?_) (a' := ?_) #[true, true, true, true, true, false, true, true, false, false, false, false, false, false, false, false, false, false, false, false, false, false] rfl rfl (any_of HT_.out (by kernel_rfl)) (fun _ _ _ h => h) (Or.inl ⟨by rfl, ?_⟩) ?_ ?_
             rotate_left
             ·
              intro w'
              go_simp
              with_reducible rfl
             rotate_left
             ·
              simp only [Act.put, List.setIfInBounds_toArray, List.set_cons_zero, List.set_cons_succ, i64_w, i32_w, IntKind.wrap_u8, IntKind.wrap_u32]
              rfl
             refine take_ (i := 5) (N := some 36) (v := ?_) (a' := ?_) #[true, true, true, true, true, true, true, true, false, false, false, false, false, false, false, false, false, false, false, false, false, false] rfl rfl (take_ofW HT_.out HW_.out (by kernel_rfl)) (fun _ _ _ h => h) (Or.inl ⟨by rfl, ?_⟩) hHeld ?_ ?_
             rotate_left
             ·
              rintro w' ⟨s0, s1, s2, s3, s4, s5, s6, s7, s8⟩
              go_simp
              with_reducible rfl
             rotate_left
             ·
              simp only [Act.put, List.setIfInBounds_toArray, List.set_cons_zero, List.set_cons_succ, i64_w, i32_w, IntKind.wrap_u8, IntKind.wrap_u32]
              rfl
             refine pure_ (i := 8) (N := some 39) (v := ?_) (a' := ?_) #[true, true, true, true, true, true, true, true, true, false, false, false, false, false, false, false, false, false, false, false, false, false] rfl rfl (any_of HT_.out (by kernel_rfl)) (fun _ _ _ h => h) (Or.inl ⟨by rfl, ?_⟩) ?_ ?_
             rotate_left
             ·
              intro w'
              go_simp
              with_reducible rfl
             rotate_left
             ·
              simp only [Act.put, List.setIfInBounds_toArray, List.set_cons_zero, List.set_cons_succ, i64_w, i32_w, IntKind.wrap_u8, IntKind.wrap_u32]
              rfl
             refine pure_ (i := 9) (N := some 40) (v := ?_) (a' := ?_) #[true, true, true, true, true, true, true, true, true, true, false, false, false, false, false, false, false, false, false, false, false, false] rfl rfl (any_of HT_.out (by kernel_rfl)) (fun _ _ _ h => h) (Or.inl ⟨by rfl, ?_⟩) ?_ ?_
             rotate_left
             ·
              intro w'
              go_simp
              with_reducible rfl
             rotate_left
             ·
              simp only [Act.put, List.setIfInBounds_toArray, List.set_cons_zero, List.set_cons_succ, i64_w, i32_w, IntKind.wrap_u8, IntKind.wrap_u32]
              rfl
             refine pure_ (i := 10) (N := some 41) (v := ?_) (a' := ?_) #[true, true, true, true, true, true, true, true, true, true, true, false, false, false, false, false, false, false, false, false, false, false] rfl rfl (any_of HT_.out (by kernel_rfl)) (fun _ _ _ h => h) (Or.inl ⟨by rfl, ?_⟩) ?_ ?_
             rotate_left
             ·
              intro w'
              go_simp
              with_reducible rfl
             rotate_left
             ·
              simp only [Act.put, List.setIfInBounds_toArray, List.set_cons_zero, List.set_cons_succ, i64_w, i32_w, IntKind.wrap_u8, IntKind.wrap_u32]
              rfl
             refine pure_ (i := 12) (N := some 43) (v := ?_) (a' := ?_) #[true, true, true, true, true, true, true, true, true, true, true, false, true, false, false, false, false, false, false, false, false, false] rfl rfl (any_of HT_.out (by kernel_rfl)) (fun _ _ _ h => h) (Or.inl ⟨by rfl, ?_⟩) ?_ ?_
             rotate_left
             ·
              intro w'
              go_simp
              with_reducible rfl
             rotate_left
             ·
              simp only [Act.put, List.setIfInBounds_toArray, List.set_cons_zero, List.set_cons_succ, i64_w, i32_w, IntKind.wrap_u8, IntKind.wrap_u32]
              rfl
             refine pure_ (i := 13) (N := some 44) (v := ?_) (a' := ?_) #[true, true, true, true, true, true, true, true, true, true, true, false, true, true, false, false, false, false, false, false, false, false] rfl rfl (any_of HT_.out (by kernel_rfl)) (fun _ _ _ h => h) (Or.inl ⟨by rfl, ?_⟩) ?_ ?_
             rotate_left
             ·
              intro w'
              go_simp
              with_reducible rfl
             rotate_left
             ·
              simp only [Act.put, List.setIfInBounds_toArray, List.set_cons_zero, List.set_cons_succ, i64_w, i32_w, IntKind.wrap_u8, IntKind.wrap_u32]
              rfl
             refine pure_ (i := 18) (N := some 49) (v := ?_) (a' := ?_) #[true, true, true, true, true, true, true, true, true, true, true, false, true, true, false, false, false, false, true, false, false, false] rfl rfl (any_of HT_.out (by kernel_rfl)) (fun _ _ _ h => h) (Or.inl ⟨by rfl, ?_⟩) ?_ ?_
             rotate_left
             ·
              intro w'
              go_simp
              with_reducible rfl
             rotate_left
             ·
              simp only [Act.put, List.setIfInBounds_toArray, List.set_cons_zero, List.set_cons_succ, i64_w, i32_w, IntKind.wrap_u8, IntKind.wrap_u32]
              rfl
             refine take_ (i := 11) (N := some 42) (v := ?_) (a' := ?_) #[true, true, true, true, true, true, true, true, true, true, true, true, true, true, false, false, false, false, true, false, false, false] rfl rfl (take_ofW HT_.out HW_.out (by kernel_rfl)) (fun _ _ _ h => h) (Or.inl ⟨by rfl, ?_⟩) hHeld ?_ ?_
             rotate_left
             ·
              rintro w' ⟨s0, s1, s2, s3, s4, s5, s6, s7, s8⟩
              go_simp
              with_reducible rfl
             rotate_left
             ·
              simp only [Act.put, List.setIfInBounds_toArray, List.set_cons_zero, List.set_cons_succ, i64_w, i32_w, IntKind.wrap_u8, IntKind.wrap_u32]
              rfl
             refine take_ (i := 14) (N := some 45) (v := ?_) (a' := ?_) #[true, true, true, true, true, true, true, true, true, true, true, true, true, true, true, false, false, false, true, false, false, false] rfl rfl (take_ofW HT_.out HW_.out (by kernel_rfl)) (fun _ _ _ h => h) (Or.inl ⟨by rfl, ?_⟩) hHeld ?_ ?_
             rotate_left
             ·
              rintro w' ⟨s0, s1, s2, s3, s4, s5, s6, s7, s8⟩
              go_simp
              with_reducible rfl
             rotate_left
             ·
              simp only [Act.put, List.setIfInBounds_toArray, List.set_cons_zero, List.set_cons_succ, i64_w, i32_w, IntKind.wrap_u8, IntKind.wrap_u32]
              rfl
             refine pure_ (i := 15) (N := some 46) (v := ?_) (a' := ?_) #[true, true, true, true, true, true, true, true, true, true, true, true, true, true, true, true, false, false, true, false, false, false] rfl rfl (any_of HT_.out (by kernel_rfl)) (fun _ _ _ h => h) (Or.inl ⟨by rfl, ?_⟩) ?_ ?_
             rotate_left
             ·
              intro w'
              go_simp
              with_reducible rfl
             rotate_left
             ·
              simp only [Act.put, List.setIfInBounds_toArray, List.set_cons_zero, List.set_cons_succ, i64_w, i32_w, IntKind.wrap_u8, IntKind.wrap_u32]
              rfl
             refine pure_ (i := 16) (N := some 47) (v := ?_) (a' := ?_) #[true, true, true, true, true, true, true, true, true, true, true, true, true, true, true, true, true, false, true, false, false, false] rfl rfl (any_of HT_.out (by kernel_rfl)) (fun _ _ _ h => h) (Or.inl ⟨by rfl, ?_⟩) ?_ ?_
             rotate_left
             ·
              intro w'
              go_simp
              with_reducible rfl
             rotate_left
             ·
              simp only [Act.put, List.setIfInBounds_toArray, List.set_cons_zero, List.set_cons_succ, i64_w, i32_w, IntKind.wrap_u8, IntKind.wrap_u32]
              rfl
             refine take_ (i := 17) (N := some 48) (v := ?_) (a' := ?_) #[true, true, true, true, true, true, true, true, true, true, true, true, true, true, true, true, true, true, true, false, false, false] rfl rfl (take_ofW HT_.out HW_.out (by kernel_rfl)) (fun _ _ _ h => h) (Or.inl ⟨by rfl, ?_⟩) hHeld ?_ ?_
             rotate_left
             ·
              rintro w' ⟨s0, s1, s2, s3, s4, s5, s6, s7, s8⟩
              go_simp
              with_reducible rfl
             rotate_left
             ·
              simp only [Act.put, List.setIfInBounds_toArray, List.set_cons_zero, List.set_cons_succ, i64_w, i32_w, IntKind.wrap_u8, IntKind.wrap_u32]
              rfl
             refine one_ (i := 19) (N := some 50) #[true, true, true, true, true, true, true, true, true, true, true, true, true, true, true, true, true, true, true, true, false, false] rfl rfl (one_of HT_.out (by kernel_rfl)) (by decide) (fun K hK => ?_)
             refine goes_ Try.func90 (by kernel_rfl) rfl #[.agg #[.int .i64 a0_0, .int .i64 a0_1, .int .u8 a0_2, .int .i64 a0_3, .int .i64 a0_4], .agg #[.string ((rd_T36 l1 (ji27)).f0), .int .i64 ((rd_T36 l1 (ji27)).f1), .slice A690_2 ((rd_T36 l1 (ji27)).f2).length c690_2, .int .i64 ((rd_T36 l1 (ji27)).f3)], .int .i64 a2] (by rfl) rfl rfl (by (try simp only [List.map_toArray, List.map_cons, List.map_nil]); first | done | (simp only [hji27]; rfl) | rfl | (simp only [List.length_drop, List.length_take]; rfl)) ?_
             with_reducible refine (rela_may.calls k2 a0_0 a0_1 a0_2 a0_3 a0_4 ((rd_T36 l1 (ji27)).f0) ((rd_T36 l1 (ji27)).f1) _ _ ((rd_T36 l1 (ji27)).f2) ((rd_T36 l1 (ji27)).f3) a2 false _ ?side1 ?side2 A30.out).mono ?_
             (case side1 => repeat (first | exact (Kd.C_below HR690_2.out HB.out) | (with_reducible refine Kd.C_alloc ?_ _) | (with_reducible refine Kd.C_drewN ?_ _) | (with_reducible refine Kd.C_drew ?_)))
             (case side2 => exact HC690_2.out)
             rintro e w35 ⟨rfl, hb⟩
             refine ⟨_, rfl, ?_⟩
             have n0_ := Aside0.mk (blk_below (g := gb686) (o := .cells #[.int .i64 a0_0, .int .i64 a0_1, .int .u8 a0_2, .int .i64 a0_3, .int .i64 a0_4] 71 (0, 0)) (by (with_reducible repeat (first | refine blk_drewN ?_ _ | refine blk_drew ?_ | refine blk_alloc ?_ _)); exact BK686.out) hb)
             have n1_ := Aside0.mk (below_step (by repeat (first | (with_reducible first | exact HB.out | apply below_alloc | apply pw_below_drewN | apply below_drew1 | refine below_set ?_ GE686.out) | exact HB.out)) hb)
             clear BK686
             clear HB
             have BK686 := n0_
             have HB := n1_
             clear n0_ n1_
             (try clear hb)
             (try clear hb2)
             (try clear hk)
             (try clear hi)
             refine hK.out _ _ ⟨(blk_cell BK686.out 0).trans rfl, (blk_cell BK686.out 1).trans rfl, (blk_cell BK686.out 2).trans rfl, (blk_cell BK686.out 3).trans rfl, (blk_cell BK686.out 4).trans rfl, ((HB.out.cell (World.block_lt_of_cell? w _ hw690_0)).trans hw690_0), ((HB.out.cell (World.block_lt_of_cell? w _ hw690_1)).trans hw690_1), ((HB.out.cell (World.block_lt_of_cell? w _ hw690_2)).trans hw690_2), ((HB.out.cell (World.block_lt_of_cell? w _ hw690_3)).trans hw690_3)⟩ (fun hHeld => ?_)
             clear hK K
             refine norm_ (a' := ?_) ?_ ?_
             rotate_left
             ·
              show Act.put _ (some 50) _ = _
              simp only [Act.put, List.setIfInBounds_toArray, List.set_cons_zero, List.set_cons_succ, i64_w, i32_w, IntKind.wrap_u8, IntKind.wrap_u32]
              rfl
             refine pure_ (i := 20) (N := some 51) (v := ?_) (a' := ?_) #[true, true, true, true, true, true, true, true, true, true, true, true, true, true, true, true, true, true, true, true, true, false] rfl rfl (any_of HT_.out (by kernel_rfl)) (fun _ _ _ h => h) (Or.inl ⟨by rfl, ?_⟩) ?_ ?_
             rotate_left
             ·
              intro w'
              go_simp
              with_reducible rfl
             rotate_left
             ·
              simp only [Act.put, List.setIfInBounds_toArray, List.set_cons_zero, List.set_cons_succ, i64_w, i32_w, IntKind.wrap_u8, IntKind.wrap_u32]
              rfl
             refine pure_ (i := 21) (N := some 52) (v := ?_) (a' := ?_) #[true, true, true, true, true, true, true, true, true, true, true, true, true, true, true, true, true, true, true, true, true, true] rfl rfl (any_of HT_.out (by kernel_rfl)) (fun _ _ _ h => h) (Or.inl ⟨by rfl, ?_⟩) ?_ ?_
             rotate_left
             ·
              intro w'
              go_simp
              with_reducible rfl
             rotate_left
             ·
              simp only [Act.put, List.setIfInBounds_toArray, List.set_cons_zero, List.set_cons_succ, i64_w, i32_w, IntKind.wrap_u8, IntKind.wrap_u32]
              rfl
             refine done_ (done_of HT_.out (by kernel_rfl)) ?_
             try go_wp2
             go_ret
             exact ⟨by first | rfl | (simp [errW_none, errW_some] <;> rfl) | (simp only [← hji27]; first | rfl | (simp [errW_none, errW_some] <;> rfl)) | (simp [*, errW_none, errW_some] <;> rfl), by repeat (first | (with_reducible first | exact HB.out | apply below_alloc | apply pw_below_drewN | apply below_drew1 | refine below_set ?_ GE686.out) | exact HB.out)⟩
           ·
            rw [if_neg c29] at H
            exact absurd H (by simp)
          ·
           rw [if_neg c28] at H
           exact absurd H (by simp)


/-! ### rela_Write: function 56 -/
def rela_Write.go (k : Nat) : List (Int × Int) → List Int → Option (List Int × Int)
  | [], acc => some (acc, 0)
  | p :: l, acc => (le_Put.f k p.1 p.2).bind fun q => if acc.length + q.1.length < 140737488355328 then rela_Write.go k l (acc ++ q.1) else none
def rela_Write.f (k : Nat) (a0_0 a0_1 a0_2 a0_3 a0_4 : Int) : Option (List Int × Int) := (rela_Field.f k a0_2).bind fun q => if q.2 = 0 then (if a0_1 < 0 then some (([] : List Int), (8 : Int)) else (if a0_1 > 4096 then some (([] : List Int), (8 : Int)) else (if a0_3 < -1 then some (([] : List Int), (8 : Int)) else (if a0_3 ≥ 64 then some (([] : List Int), (8 : Int)) else (if a0_4 < -2147483648 then some (([] : List Int), (8 : Int)) else (if a0_4 > 4294967295 then some (([] : List Int), (8 : Int)) else rela_Write.go k [(a0_1, 8), ((wrap64 a0_2), 4), (a0_3 + 1, 4), (a0_4, 8)] [])))))) else some (([] : List Int), (8 : Int))
theorem rela_Write.go_mono (k : Nat) : ∀ (l : List (Int × Int)) (acc : List Int), LeO (rela_Write.go k l acc) (rela_Write.go (k + 1) l acc)
  | [], _ => LeO.refl _
  | p :: l, acc => by
    unfold rela_Write.go
    refine LeO.bind (le_Put.mono _ _ _) (fun q => ?_)
    by_cases h3 : acc.length + q.1.length < 140737488355328
    · rw [if_pos h3, if_pos h3]; exact rela_Write.go_mono k l _
    · rw [if_neg h3, if_neg h3]; exact LeO.refl _
theorem rela_Write.mono (a0_0 a0_1 a0_2 a0_3 a0_4 : Int) (k : Nat) : LeO (rela_Write.f k a0_0 a0_1 a0_2 a0_3 a0_4) (rela_Write.f (k + 1) a0_0 a0_1 a0_2 a0_3 a0_4) := by
  unfold rela_Write.f
  refine LeO.bind (rela_Field.mono _ _) (fun q => ?_)
  repeat' first
    | (with_reducible exact rela_Write.go_mono _ _ _)
    | (with_reducible exact LeO.refl _)
    | (with_reducible refine LeO.ite ?_ ?_)
set_option maxHeartbeats 4000000 in
set_option maxRecDepth 1000000 in
theorem rela_Write.calls (k : Nat) (a0_0 a0_1 a0_2 a0_3 a0_4 : Int) (r1 : List Int) (r2 : Int) (w : World) (h : rela_Write.f k a0_0 a0_1 a0_2 a0_3 a0_4 = some (r1, r2)) :
    Calls Try.prog 56 #[.agg #[.int .i64 a0_0, .int .i64 a0_1, .int .u8 a0_2, .int .i64 a0_3, .int .i64 a0_4]] w fun e w' => ∃ v0_ : Value, e = .returned (.tuple #[v0_, .int .i64 r2]) ∧ Kd.R (Kd.int .u8) 5 w' w.heap.size (fun _ => True) v0_ r1 ∧ Below w.heap.size w w' := by
  unfold rela_Write.f at h
  obtain ⟨⟨f1, f2⟩, HF0, h⟩ := Option.bind_eq_some_iff.mp h
  replace h : (if f2 = 0 then (if a0_1 < 0 then some (([] : List Int), (8 : Int)) else (if a0_1 > 4096 then some (([] : List Int), (8 : Int)) else (if a0_3 < -1 then some (([] : List Int), (8 : Int)) else (if a0_3 ≥ 64 then some (([] : List Int), (8 : Int)) else (if a0_4 < -2147483648 then some (([] : List Int), (8 : Int)) else (if a0_4 > 4294967295 then some (([] : List Int), (8 : Int)) else rela_Write.go k [(a0_1, 8), ((wrap64 a0_2), 4), (a0_3 + 1, 4), (a0_4, 8)] [])))))) else some (([] : List Int), (8 : Int))) = some (r1, r2) := h
  have HF := Aside0.mk HF0
  clear HF0
  by_cases cf : f2 = 0
  · rw [if_pos cf] at h
    subst cf
    by_cases c0 : a0_1 < 0
    · rw [if_pos c0] at h
      simp only [Option.some.injEq, Prod.mk.injEq] at h
      obtain ⟨rfl, rfl⟩ := h
      go_enter Try.func56, Try.ntmps56
      go_wp2_with (go_at_call 55; refine (rela_Field.calls k a0_2 f1 _ _ HF.out).mono ?_; rintro e w1 ⟨rfl, ⟨nd, rfl⟩⟩)
      go_ret2
      exact ⟨_, rfl, Kd.R_nil _ _ _ _ _, (by repeat (with_reducible first | exact Below.refl _ _ | apply pw_below_drewN | apply below_drew1 | apply below_alloc))⟩
    · rw [if_neg c0] at h
      by_cases c1 : a0_1 > 4096
      · rw [if_pos c1] at h
        simp only [Option.some.injEq, Prod.mk.injEq] at h
        obtain ⟨rfl, rfl⟩ := h
        go_enter Try.func56, Try.ntmps56
        go_wp2_with (go_at_call 55; refine (rela_Field.calls k a0_2 f1 _ _ HF.out).mono ?_; rintro e w1 ⟨rfl, ⟨nd, rfl⟩⟩)
        go_ret2
        exact ⟨_, rfl, Kd.R_nil _ _ _ _ _, (by repeat (with_reducible first | exact Below.refl _ _ | apply pw_below_drewN | apply below_drew1 | apply below_alloc))⟩
      · rw [if_neg c1] at h
        by_cases c2 : a0_3 < -1
        · rw [if_pos c2] at h
          simp only [Option.some.injEq, Prod.mk.injEq] at h
          obtain ⟨rfl, rfl⟩ := h
          go_enter Try.func56, Try.ntmps56
          go_wp2_with (go_at_call 55; refine (rela_Field.calls k a0_2 f1 _ _ HF.out).mono ?_; rintro e w1 ⟨rfl, ⟨nd, rfl⟩⟩)
          go_ret2
          exact ⟨_, rfl, Kd.R_nil _ _ _ _ _, (by repeat (with_reducible first | exact Below.refl _ _ | apply pw_below_drewN | apply below_drew1 | apply below_alloc))⟩
        · rw [if_neg c2] at h
          by_cases c3 : a0_3 ≥ 64
          · rw [if_pos c3] at h
            simp only [Option.some.injEq, Prod.mk.injEq] at h
            obtain ⟨rfl, rfl⟩ := h
            go_enter Try.func56, Try.ntmps56
            go_wp2_with (go_at_call 55; refine (rela_Field.calls k a0_2 f1 _ _ HF.out).mono ?_; rintro e w1 ⟨rfl, ⟨nd, rfl⟩⟩)
            go_ret2
            exact ⟨_, rfl, Kd.R_nil _ _ _ _ _, (by repeat (with_reducible first | exact Below.refl _ _ | apply pw_below_drewN | apply below_drew1 | apply below_alloc))⟩
          · rw [if_neg c3] at h
            by_cases c4 : a0_4 < -2147483648
            · rw [if_pos c4] at h
              simp only [Option.some.injEq, Prod.mk.injEq] at h
              obtain ⟨rfl, rfl⟩ := h
              go_enter Try.func56, Try.ntmps56
              go_wp2_with (go_at_call 55; refine (rela_Field.calls k a0_2 f1 _ _ HF.out).mono ?_; rintro e w1 ⟨rfl, ⟨nd, rfl⟩⟩)
              go_ret2
              exact ⟨_, rfl, Kd.R_nil _ _ _ _ _, (by repeat (with_reducible first | exact Below.refl _ _ | apply pw_below_drewN | apply below_drew1 | apply below_alloc))⟩
            · rw [if_neg c4] at h
              by_cases c5 : a0_4 > 4294967295
              · rw [if_pos c5] at h
                simp only [Option.some.injEq, Prod.mk.injEq] at h
                obtain ⟨rfl, rfl⟩ := h
                go_enter Try.func56, Try.ntmps56
                go_wp2_with (go_at_call 55; refine (rela_Field.calls k a0_2 f1 _ _ HF.out).mono ?_; rintro e w1 ⟨rfl, ⟨nd, rfl⟩⟩)
                go_ret2
                exact ⟨_, rfl, Kd.R_nil _ _ _ _ _, (by repeat (with_reducible first | exact Below.refl _ _ | apply pw_below_drewN | apply below_drew1 | apply below_alloc))⟩
              · rw [if_neg c5] at h
                go_enter Try.func56, Try.ntmps56
                go_wp2_with (go_at_call 55; refine (rela_Field.calls k a0_2 f1 _ _ HF.out).mono ?_; rintro e w1 ⟨rfl, ⟨nd, rfl⟩⟩)
                go_outline
                go_loopg [6, 64] 5 (fun gf v6 v64 wr => ∃ (j : Nat) (acc : List Int), j + gf = 5 ∧ j ≤ 4 ∧ v64 = .int .i64 j ∧ Kd.R (Kd.int .u8) 5 wr w.heap.size (fun _ => True) v6 acc ∧ rela_Write.go k (([(a0_1, 8), ((wrap64 a0_2), 4), (a0_3 + 1, 4), (a0_4, 8)] : List (Int × Int)).drop j) acc = some (r1, r2)
                    ∧ wr.heap[w.heap.size]? = some (.cells #[.int .i64 a0_0, .int .i64 a0_1, .int .u8 a0_2, .int .i64 a0_3, .int .i64 a0_4] 71 (0, 0)) ∧ Below w.heap.size w wr)
                case atStart =>
                  exact ⟨0, [], rfl, by omega, rfl, Kd.R_nil _ _ _ _ _, h, blk_drewN (blk_new w _) _, pw_below_drewN (below_alloc (Below.refl _ _) _) _⟩
                case round =>
                  obtain ⟨j, acc, hj, hj4, rfl, hR, HA, hb0, hB⟩ := hrel
                  rcases (show j = 0 ∨ j = 1 ∨ j = 2 ∨ j = 3 ∨ j = 4 by omega) with rfl | rfl | rfl | rfl | rfl
                  · have HAx : (le_Put.f k a0_1 8).bind (fun q => if acc.length + q.1.length < 140737488355328 then rela_Write.go k [((wrap64 a0_2), 4), ((a0_3 + 1), 4), (a0_4, 8)] (acc ++ q.1) else none) = some (r1, r2) := HA
                    obtain ⟨⟨q1, q2⟩, HP0, HQ0⟩ := Option.bind_eq_some_iff.mp HAx
                    have HP := Aside0.mk HP0
                    have HQ1 : (if acc.length + q1.length < 140737488355328 then rela_Write.go k [((wrap64 a0_2), 4), ((a0_3 + 1), 4), (a0_4, 8)] (acc ++ q1) else none) = some (r1, r2) := HQ0
                    clear HAx HP0 HQ0 HA
                    by_cases hl : acc.length + q1.length < 140737488355328
                    · rw [if_pos hl] at HQ1
                      have HQ := Aside0.mk HQ1
                      have HLL := Aside0.mk hl
                      have HR := Aside0.mk hR
                      have HB0 := Aside0.mk hb0
                      have HBB := Aside0.mk hB
                      clear HQ1 hl hR hb0 hB
                      have hix : ∀ W, (Instr.index 132 (.agg #[.int .i64 a0_1, .int .i64 8, .int .i64 (wrap64 a0_2), .int .i64 4, .int .i64 (a0_3 + 1), .int .i64 4, .int .i64 a0_4, .int .i64 8]) (.int .i64 0)).run Try.prog W = .ok (.agg #[.int .i64 a0_1, .int .i64 8]) W := fun _ => by kernel_rfl
                      go_wp2_with (first | (go_at_call 68; (with_reducible refine (le_Put.calls k a0_1 8 q1 q2 _ HP.out).mono ?_); rintro e w1 ⟨v5, rfl, hR5, hb5⟩; have hE := Kd.R_elder' (Kd.R_alloc HR.out (.cells #[.int .i64 a0_1, .int .i64 8] 131)) (Kd.R_base hR5) hb5; have hV := Kd.R_lower (Kd.R_new' hR5 (Kd.R_lt (Kd.R_alloc HR.out (.cells #[.int .i64 a0_1, .int .i64 8] 131)))) (below_size (below_alloc HBB.out (.cells #[.int .i64 a0_1, .int .i64 8] 131))); have gb0 := blk_below (blk_alloc HB0.out (.cells #[.int .i64 a0_1, .int .i64 8] 131)) hb5; have gB := below_step (below_alloc HBB.out (.cells #[.int .i64 a0_1, .int .i64 8] 131)) hb5; clear HR HB0 HBB hR5 hb5; obtain ⟨Ao, co, eo⟩ := Kd.R_slice hV; subst eo; have HR := Aside0.mk hE; have HV := Aside0.mk hV; have HB0 := Aside0.mk gb0; have HBB := Aside0.mk gB; clear hE hV gb0 gB) | ((with_reducible refine gate_builtin (b := .append) (xs := #[.tmp 75, .tmp 76]) rfl ?_); at_builtin; refine Kd.R_append_rows (Kd.int .u8) (w0 := w) w.heap.size rfl (.tmp 75) (.tmp 76) 24 5 (.int .u8 0) 1 rfl Try.underlying24 info5 rfl (by decide) (by omega) u6 acc q1 _ _ _ (fun k_ => some k_ ≠ (.slice Ao q1.length co : Value).ownBlock) (fun _ => False) rfl rfl ?aO ?aR (fun _ _ h => h) (fun _ h => h.elim) ?aF ?aB ?aS ?aL ?_; (case aR => exact (Kd.R_reads' HV.out).2.2); (case aB => exact HBB.out); (case aF => exact (fun k_ hk => Kd.fresh' (Kd.R_lt HV.out) k_ hk)); (case aO => exact (Kd.R_mono HR.out (fun _ hk => hk.2))); (case aS => exact below_size HBB.out); (case aL => have := HLL.out; omega); intro v1 w2 ho hb hg hat; have n0_ := Aside0.mk (blk_grown HB0.out hg (Kd.R_ne HR.out HB0.out (by decide))); have n2_ := Aside0.mk hb; have n3_ := Aside0.mk ho; clear HB0 HBB HR HV ho hb hg hat; have HB0 := n0_; have HBB := n2_; have HR := n3_; clear n0_ n2_ n3_))
                      cases gk with
                      | zero => exact absurd hj (by omega)
                      | succ k3 =>
                        go_roundg k3
                        case measure => omega
                        case rel => exact ⟨1, acc ++ q1, by omega, by omega, rfl, Kd.R_mono HR.out (fun _ _ => trivial), HQ.out, HB0.out, HBB.out⟩
                    · rw [if_neg hl] at HQ1
                      exact absurd HQ1 (by simp)
                  · have HAx : (le_Put.f k (wrap64 a0_2) 4).bind (fun q => if acc.length + q.1.length < 140737488355328 then rela_Write.go k [((a0_3 + 1), 4), (a0_4, 8)] (acc ++ q.1) else none) = some (r1, r2) := HA
                    obtain ⟨⟨q1, q2⟩, HP0, HQ0⟩ := Option.bind_eq_some_iff.mp HAx
                    have HP := Aside0.mk HP0
                    have HQ1 : (if acc.length + q1.length < 140737488355328 then rela_Write.go k [((a0_3 + 1), 4), (a0_4, 8)] (acc ++ q1) else none) = some (r1, r2) := HQ0
                    clear HAx HP0 HQ0 HA
                    by_cases hl : acc.length + q1.length < 140737488355328
                    · rw [if_pos hl] at HQ1
                      have HQ := Aside0.mk HQ1
                      have HLL := Aside0.mk hl
                      have HR := Aside0.mk hR
                      have HB0 := Aside0.mk hb0
                      have HBB := Aside0.mk hB
                      clear HQ1 hl hR hb0 hB
                      have hix : ∀ W, (Instr.index 132 (.agg #[.int .i64 a0_1, .int .i64 8, .int .i64 (wrap64 a0_2), .int .i64 4, .int .i64 (a0_3 + 1), .int .i64 4, .int .i64 a0_4, .int .i64 8]) (.int .i64 1)).run Try.prog W = .ok (.agg #[.int .i64 (wrap64 a0_2), .int .i64 4]) W := fun _ => by kernel_rfl
                      go_wp2_with (first | (go_at_call 68; (with_reducible refine (le_Put.calls k (wrap64 a0_2) 4 q1 q2 _ HP.out).mono ?_); rintro e w1 ⟨v5, rfl, hR5, hb5⟩; have hE := Kd.R_elder' (Kd.R_alloc HR.out (.cells #[.int .i64 (wrap64 a0_2), .int .i64 4] 131)) (Kd.R_base hR5) hb5; have hV := Kd.R_lower (Kd.R_new' hR5 (Kd.R_lt (Kd.R_alloc HR.out (.cells #[.int .i64 (wrap64 a0_2), .int .i64 4] 131)))) (below_size (below_alloc HBB.out (.cells #[.int .i64 (wrap64 a0_2), .int .i64 4] 131))); have gb0 := blk_below (blk_alloc HB0.out (.cells #[.int .i64 (wrap64 a0_2), .int .i64 4] 131)) hb5; have gB := below_step (below_alloc HBB.out (.cells #[.int .i64 (wrap64 a0_2), .int .i64 4] 131)) hb5; clear HR HB0 HBB hR5 hb5; obtain ⟨Ao, co, eo⟩ := Kd.R_slice hV; subst eo; have HR := Aside0.mk hE; have HV := Aside0.mk hV; have HB0 := Aside0.mk gb0; have HBB := Aside0.mk gB; clear hE hV gb0 gB) | ((with_reducible refine gate_builtin (b := .append) (xs := #[.tmp 75, .tmp 76]) rfl ?_); at_builtin; refine Kd.R_append_rows (Kd.int .u8) (w0 := w) w.heap.size rfl (.tmp 75) (.tmp 76) 24 5 (.int .u8 0) 1 rfl Try.underlying24 info5 rfl (by decide) (by omega) u6 acc q1 _ _ _ (fun k_ => some k_ ≠ (.slice Ao q1.length co : Value).ownBlock) (fun _ => False) rfl rfl ?aO ?aR (fun _ _ h => h) (fun _ h => h.elim) ?aF ?aB ?aS ?aL ?_; (case aR => exact (Kd.R_reads' HV.out).2.2); (case aB => exact HBB.out); (case aF => exact (fun k_ hk => Kd.fresh' (Kd.R_lt HV.out) k_ hk)); (case aO => exact (Kd.R_mono HR.out (fun _ hk => hk.2))); (case aS => exact below_size HBB.out); (case aL => have := HLL.out; omega); intro v1 w2 ho hb hg hat; have n0_ := Aside0.mk (blk_grown HB0.out hg (Kd.R_ne HR.out HB0.out (by decide))); have n2_ := Aside0.mk hb; have n3_ := Aside0.mk ho; clear HB0 HBB HR HV ho hb hg hat; have HB0 := n0_; have HBB := n2_; have HR := n3_; clear n0_ n2_ n3_))
                      cases gk with
                      | zero => exact absurd hj (by omega)
                      | succ k3 =>
                        go_roundg k3
                        case measure => omega
                        case rel => exact ⟨2, acc ++ q1, by omega, by omega, rfl, Kd.R_mono HR.out (fun _ _ => trivial), HQ.out, HB0.out, HBB.out⟩
                    · rw [if_neg hl] at HQ1
                      exact absurd HQ1 (by simp)
                  · have HAx : (le_Put.f k (a0_3 + 1) 4).bind (fun q => if acc.length + q.1.length < 140737488355328 then rela_Write.go k [(a0_4, 8)] (acc ++ q.1) else none) = some (r1, r2) := HA
                    obtain ⟨⟨q1, q2⟩, HP0, HQ0⟩ := Option.bind_eq_some_iff.mp HAx
                    have HP := Aside0.mk HP0
                    have HQ1 : (if acc.length + q1.length < 140737488355328 then rela_Write.go k [(a0_4, 8)] (acc ++ q1) else none) = some (r1, r2) := HQ0
                    clear HAx HP0 HQ0 HA
                    by_cases hl : acc.length + q1.length < 140737488355328
                    · rw [if_pos hl] at HQ1
                      have HQ := Aside0.mk HQ1
                      have HLL := Aside0.mk hl
                      have HR := Aside0.mk hR
                      have HB0 := Aside0.mk hb0
                      have HBB := Aside0.mk hB
                      clear HQ1 hl hR hb0 hB
                      have hix : ∀ W, (Instr.index 132 (.agg #[.int .i64 a0_1, .int .i64 8, .int .i64 (wrap64 a0_2), .int .i64 4, .int .i64 (a0_3 + 1), .int .i64 4, .int .i64 a0_4, .int .i64 8]) (.int .i64 2)).run Try.prog W = .ok (.agg #[.int .i64 (a0_3 + 1), .int .i64 4]) W := fun _ => by kernel_rfl
                      go_wp2_with (first | (go_at_call 68; (with_reducible refine (le_Put.calls k (a0_3 + 1) 4 q1 q2 _ HP.out).mono ?_); rintro e w1 ⟨v5, rfl, hR5, hb5⟩; have hE := Kd.R_elder' (Kd.R_alloc HR.out (.cells #[.int .i64 (a0_3 + 1), .int .i64 4] 131)) (Kd.R_base hR5) hb5; have hV := Kd.R_lower (Kd.R_new' hR5 (Kd.R_lt (Kd.R_alloc HR.out (.cells #[.int .i64 (a0_3 + 1), .int .i64 4] 131)))) (below_size (below_alloc HBB.out (.cells #[.int .i64 (a0_3 + 1), .int .i64 4] 131))); have gb0 := blk_below (blk_alloc HB0.out (.cells #[.int .i64 (a0_3 + 1), .int .i64 4] 131)) hb5; have gB := below_step (below_alloc HBB.out (.cells #[.int .i64 (a0_3 + 1), .int .i64 4] 131)) hb5; clear HR HB0 HBB hR5 hb5; obtain ⟨Ao, co, eo⟩ := Kd.R_slice hV; subst eo; have HR := Aside0.mk hE; have HV := Aside0.mk hV; have HB0 := Aside0.mk gb0; have HBB := Aside0.mk gB; clear hE hV gb0 gB) | ((with_reducible refine gate_builtin (b := .append) (xs := #[.tmp 75, .tmp 76]) rfl ?_); at_builtin; refine Kd.R_append_rows (Kd.int .u8) (w0 := w) w.heap.size rfl (.tmp 75) (.tmp 76) 24 5 (.int .u8 0) 1 rfl Try.underlying24 info5 rfl (by decide) (by omega) u6 acc q1 _ _ _ (fun k_ => some k_ ≠ (.slice Ao q1.length co : Value).ownBlock) (fun _ => False) rfl rfl ?aO ?aR (fun _ _ h => h) (fun _ h => h.elim) ?aF ?aB ?aS ?aL ?_; (case aR => exact (Kd.R_reads' HV.out).2.2); (case aB => exact HBB.out); (case aF => exact (fun k_ hk => Kd.fresh' (Kd.R_lt HV.out) k_ hk)); (case aO => exact (Kd.R_mono HR.out (fun _ hk => hk.2))); (case aS => exact below_size HBB.out); (case aL => have := HLL.out; omega); intro v1 w2 ho hb hg hat; have n0_ := Aside0.mk (blk_grown HB0.out hg (Kd.R_ne HR.out HB0.out (by decide))); have n2_ := Aside0.mk hb; have n3_ := Aside0.mk ho; clear HB0 HBB HR HV ho hb hg hat; have HB0 := n0_; have HBB := n2_; have HR := n3_; clear n0_ n2_ n3_))
                      cases gk with
                      | zero => exact absurd hj (by omega)
                      | succ k3 =>
                        go_roundg k3
                        case measure => omega
                        case rel => exact ⟨3, acc ++ q1, by omega, by omega, rfl, Kd.R_mono HR.out (fun _ _ => trivial), HQ.out, HB0.out, HBB.out⟩
                    · rw [if_neg hl] at HQ1
                      exact absurd HQ1 (by simp)
                  · have HAx : (le_Put.f k a0_4 8).bind (fun q => if acc.length + q.1.length < 140737488355328 then rela_Write.go k [] (acc ++ q.1) else none) = some (r1, r2) := HA
                    obtain ⟨⟨q1, q2⟩, HP0, HQ0⟩ := Option.bind_eq_some_iff.mp HAx
                    have HP := Aside0.mk HP0
                    have HQ1 : (if acc.length + q1.length < 140737488355328 then rela_Write.go k [] (acc ++ q1) else none) = some (r1, r2) := HQ0
                    clear HAx HP0 HQ0 HA
                    by_cases hl : acc.length + q1.length < 140737488355328
                    · rw [if_pos hl] at HQ1
                      have HQ := Aside0.mk HQ1
                      have HLL := Aside0.mk hl
                      have HR := Aside0.mk hR
                      have HB0 := Aside0.mk hb0
                      have HBB := Aside0.mk hB
                      clear HQ1 hl hR hb0 hB
                      have hix : ∀ W, (Instr.index 132 (.agg #[.int .i64 a0_1, .int .i64 8, .int .i64 (wrap64 a0_2), .int .i64 4, .int .i64 (a0_3 + 1), .int .i64 4, .int .i64 a0_4, .int .i64 8]) (.int .i64 3)).run Try.prog W = .ok (.agg #[.int .i64 a0_4, .int .i64 8]) W := fun _ => by kernel_rfl
                      go_wp2_with (first | (go_at_call 68; (with_reducible refine (le_Put.calls k a0_4 8 q1 q2 _ HP.out).mono ?_); rintro e w1 ⟨v5, rfl, hR5, hb5⟩; have hE := Kd.R_elder' (Kd.R_alloc HR.out (.cells #[.int .i64 a0_4, .int .i64 8] 131)) (Kd.R_base hR5) hb5; have hV := Kd.R_lower (Kd.R_new' hR5 (Kd.R_lt (Kd.R_alloc HR.out (.cells #[.int .i64 a0_4, .int .i64 8] 131)))) (below_size (below_alloc HBB.out (.cells #[.int .i64 a0_4, .int .i64 8] 131))); have gb0 := blk_below (blk_alloc HB0.out (.cells #[.int .i64 a0_4, .int .i64 8] 131)) hb5; have gB := below_step (below_alloc HBB.out (.cells #[.int .i64 a0_4, .int .i64 8] 131)) hb5; clear HR HB0 HBB hR5 hb5; obtain ⟨Ao, co, eo⟩ := Kd.R_slice hV; subst eo; have HR := Aside0.mk hE; have HV := Aside0.mk hV; have HB0 := Aside0.mk gb0; have HBB := Aside0.mk gB; clear hE hV gb0 gB) | ((with_reducible refine gate_builtin (b := .append) (xs := #[.tmp 75, .tmp 76]) rfl ?_); at_builtin; refine Kd.R_append_rows (Kd.int .u8) (w0 := w) w.heap.size rfl (.tmp 75) (.tmp 76) 24 5 (.int .u8 0) 1 rfl Try.underlying24 info5 rfl (by decide) (by omega) u6 acc q1 _ _ _ (fun k_ => some k_ ≠ (.slice Ao q1.length co : Value).ownBlock) (fun _ => False) rfl rfl ?aO ?aR (fun _ _ h => h) (fun _ h => h.elim) ?aF ?aB ?aS ?aL ?_; (case aR => exact (Kd.R_reads' HV.out).2.2); (case aB => exact HBB.out); (case aF => exact (fun k_ hk => Kd.fresh' (Kd.R_lt HV.out) k_ hk)); (case aO => exact (Kd.R_mono HR.out (fun _ hk => hk.2))); (case aS => exact below_size HBB.out); (case aL => have := HLL.out; omega); intro v1 w2 ho hb hg hat; have n0_ := Aside0.mk (blk_grown HB0.out hg (Kd.R_ne HR.out HB0.out (by decide))); have n2_ := Aside0.mk hb; have n3_ := Aside0.mk ho; clear HB0 HBB HR HV ho hb hg hat; have HB0 := n0_; have HBB := n2_; have HR := n3_; clear n0_ n2_ n3_))
                      cases gk with
                      | zero => exact absurd hj (by omega)
                      | succ k3 =>
                        go_roundg k3
                        case measure => omega
                        case rel => exact ⟨4, acc ++ q1, by omega, by omega, rfl, Kd.R_mono HR.out (fun _ _ => trivial), HQ.out, HB0.out, HBB.out⟩
                    · rw [if_neg hl] at HQ1
                      exact absurd HQ1 (by simp)
                  · have HA' : some (acc, (0 : Int)) = some (r1, r2) := HA
                    simp only [Option.some.injEq, Prod.mk.injEq] at HA'
                    obtain ⟨rfl, rfl⟩ := HA'
                    clear HA
                    have HR := Aside0.mk hR
                    have HBB := Aside0.mk hB
                    clear hR hB
                    go_wp2
                    go_ret2
                    exact ⟨_, rfl, HR.out, HBB.out⟩
  · rw [if_neg cf] at h
    simp only [Option.some.injEq, Prod.mk.injEq] at h
    obtain ⟨rfl, rfl⟩ := h
    go_enter Try.func56, Try.ntmps56
    go_wp2_with (go_at_call 55; refine (rela_Field.calls k a0_2 f1 _ _ HF.out).mono ?_; rintro e w1 ⟨rfl, ⟨nd, rfl⟩⟩)
    go_ret2
    exact ⟨_, rfl, Kd.R_nil _ _ _ _ _, (by repeat (with_reducible first | exact Below.refl _ _ | apply pw_below_drewN | apply below_drew1 | apply below_alloc))⟩


end Go.Proofs.Ytomabnfeipobnaa.P
