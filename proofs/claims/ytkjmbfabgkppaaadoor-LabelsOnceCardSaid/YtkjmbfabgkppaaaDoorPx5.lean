-- Written by pext.py, a program of this session, over the kit's print: a function's contract
import Derived.Test.YtkjmbfabgkppaaaDoorPx0
namespace Go.Proofs.YtkjmbfabgkppaaaDoor.P
open Go.RowKit Go.Proofs.YtkjmbfabgkppaaaDoorW.PrintWords Go.Proofs.YtkjmbfabgkppaaaDoorW.PrintLast Go.Proofs.YtkjmbfabgkppaaaDoorW.PrintMore
attribute [local go_sem] max2_int min2_int max_two min_two max_three min_three max_four min_four   -- for this text's walks alone
set_option linter.unusedVariables false
set_option linter.unusedSimpArgs false

/-! ### quoinref21_Same: function 11 -/
theorem far7 {w : World} {q p0 p1 p2 p3 p4 p5 p6 : Addr} {u0 u1 u2 u3 u4 u5 u6 : Value} {g : Nat} (h : q.block ≠ g) (e0 : p0.block = g) (e1 : p1.block = g) (e2 : p2.block = g) (e3 : p3.block = g) (e4 : p4.block = g) (e5 : p5.block = g) (e6 : p6.block = g) :
    (((((((w.setCell p0 u0).setCell p1 u1).setCell p2 u2).setCell p3 u3).setCell p4 u4).setCell p5 u5).setCell p6 u6).cell? q = w.cell? q :=
  (cell_far (by rw [e6]; exact h) _).trans ((cell_far (by rw [e5]; exact h) _).trans ((cell_far (by rw [e4]; exact h) _).trans ((cell_far (by rw [e3]; exact h) _).trans ((cell_far (by rw [e2]; exact h) _).trans ((cell_far (by rw [e1]; exact h) _).trans (cell_far (by rw [e0]; exact h) _))))))
def quoinref21_Same.l0 : Nat → List (S31) → List (S31) → Int → Option (Bool)
 | 0, _, _, _ => none
 | k + 1, x0, x1, x5 => if x5 < (x0.length : Int) then (if 0 ≤ x5 then (if x5 < (x1.length : Int) then (if ((rd_T31 x0 x5).f0) = ((rd_T31 x1 x5).f0) then (if (strOfNums ((rd_T31 x0 x5).f1)).toList = (strOfNums ((rd_T31 x1 x5).f1)).toList then (if ((rd_T31 x0 x5).f2) = ((rd_T31 x1 x5).f2) then (if ((rd_T31 x0 x5).f3).toList = ((rd_T31 x1 x5).f3).toList then (if ((rd_T31 x0 x5).f4).toList = ((rd_T31 x1 x5).f4).toList then (if ((rd_T31 x0 x5).f5) = ((rd_T31 x1 x5).f5) then (if ((rd_T31 x0 x5).f6) = ((rd_T31 x1 x5).f6) then (quoinref21_Same.l0 k x0 x1 (wrap64 (x5 + 1))) else (some false)) else (some false)) else (some false)) else (some false)) else (some false)) else (some false)) else (some false)) else (none)) else (none)) else (some true)
def quoinref21_Same.f (k : Nat) (l0 : List (S31)) (l1 : List (S31)) : Option (Bool) := if (l0.length : Int) = (l1.length : Int) then (quoinref21_Same.l0 k l0 l1 0) else (some false)
theorem quoinref21_Same.mono_l : ∀ k, (∀ y0 y1 y2, LeO (quoinref21_Same.l0 k y0 y1 y2) (quoinref21_Same.l0 (k + 1) y0 y1 y2))
 | 0 => fun _ _ _ r h => by simp [quoinref21_Same.l0] at h
 | k + 1 => by
  have ih0 := quoinref21_Same.mono_l k
  ·
   intro y0 y1 y2
   unfold quoinref21_Same.l0
   repeat' first
   | (with_reducible exact ih0 _ _ _)
   | (with_reducible exact LeO.refl _)
   | (with_reducible exact LeO.none _)
   | (with_reducible refine LeO.ite ?_ ?_)
   | (with_reducible refine LeO.bind ?_ (fun _ => ?_))
   | exact ih0 _ _ _
   | exact LeO.none _
   | refine LeO.ite ?_ ?_
   | refine LeO.bind ?_ (fun _ => ?_)
theorem quoinref21_Same.mono : ∀ a0 a1 k, LeO (quoinref21_Same.f k a0 a1) (quoinref21_Same.f (k + 1) a0 a1) := by
 intro a0 a1 k
 have ih0 := quoinref21_Same.mono_l k
 unfold quoinref21_Same.f
 repeat' first
   | (with_reducible exact ih0 _ _ _)
   | (with_reducible exact LeO.refl _)
   | (with_reducible exact LeO.none _)
   | (with_reducible refine LeO.ite ?_ ?_)
   | (with_reducible refine LeO.bind ?_ (fun _ => ?_))
   | exact ih0 _ _ _
   | exact LeO.none _
   | refine LeO.ite ?_ ?_
   | refine LeO.bind ?_ (fun _ => ?_)
def quoinref21_Same.T6 : Bool × List (List Nat × List Nat) := (true, [([], []), ([], []), ([0, 1], [0, 1]), ([2], [2]), ([], []), ([], []), ([4, 5], [4, 5]), ([6], [6]), ([], []), ([], []), ([8, 3, 0, 1, 2, 3, 8, 9], [3, 8]), ([9, 7, 10, 0, 1, 2, 3, 4, 5, 6, 7, 8, 9, 10], [7, 9])])
def quoinref21_Same.B6 : List Nat := [0, 0, 3, 7, 0, 0, 48, 112, 0, 0, 783, 2047]
theorem quoinref21_Same.tab6 : rtab .any (opsOf Tryd.f11 6) = quoinref21_Same.T6 := by kernel_rfl
theorem quoinref21_Same.bits6 : waitsOk quoinref21_Same.T6.2 quoinref21_Same.B6 = true := by kernel_rfl
set_option maxHeartbeats 40000000 in
set_option maxRecDepth 100000 in
theorem quoinref21_Same.calls (k : Nat) (A0 : Option Addr) (c0 : Nat) (l0 : List (S31)) (A1 : Option Addr) (c1 : Nat) (l1 : List (S31)) (r : Bool) (w : World) (hr0 : Kd.C k31 w A0 l0.length l0) (hc0 : l0.length ≤ c0) (hr1 : Kd.C k31 w A1 l1.length l1) (hc1 : l1.length ≤ c1) (h : quoinref21_Same.f k l0 l1 = some r) :
  Calls Tryd.prog 11 #[.slice A0 l0.length c0, .slice A1 l1.length c1] w fun e w' => e = .returned (.bool r) ∧ Below w.heap.size w w' := by
 have hu31 := Tryd.underlying31
 have HR0 := Aside0.mk hr0
 have HC0 := Aside0.mk hc0
 clear hr0 hc0
 have HR1 := Aside0.mk hr1
 have HC1 := Aside0.mk hc1
 clear hr1 hc1
 have HB := Aside0.mk (Below.refl w.heap.size w)
 have H : (if (l0.length : Int) = (l1.length : Int) then (quoinref21_Same.l0 k l0 l1 0) else (some false)) = some r := h
 clear h
 by_cases c3 : (l0.length : Int) = (l1.length : Int)
 ·
  rw [if_pos c3] at H
  have c3b0 : ((l0.length : Int) == (l1.length : Int)) = true := beq_iff_eq.mpr c3
  have c3b1 : ((l0.length : Int) != (l1.length : Int)) = false := bne_eq_false_iff_eq.mpr c3
  have c3b2 : (l0.length == l1.length) = true := by first | simpa using c3 | (simp at c3 ⊢; omega)
  clear c3
  have H' := Aside0.mk H
  clear H
  go_enter Tryd.func11, Tryd.ntmps11
  go_wp2
  go_loopg [5] k (fun kq v5 w' => ∃ (x5_1 : Int), v5 = .int .i64 x5_1 ∧ Aside0 (quoinref21_Same.l0 kq l0 l1 x5_1 = some r) ∧ Aside0 (kq ≤ k) ∧ Aside0 (Below w.heap.size w w'))
  case atStart => exact ⟨(0), (by first | rfl | (simp; done) | (simp [*]; done)), H', ⟨Nat.le_refl _⟩, ⟨by repeat (first | (with_reducible first | exact HB.out | apply below_alloc | apply pw_below_drewN | apply below_drew1) | exact HB.out)⟩⟩
  case round =>
   clear H'
   try clear c1
   try clear p2
   try clear c3
   try clear c3b0
   try clear c3b1
   try clear c3b2
   obtain ⟨x5_1, rfl, HA, HK1, HB⟩ := hrel
   cases gk with
   | zero => exact absurd HA.out (by simp [quoinref21_Same.l0])
   | succ k1 =>
    have H := HA.out
    clear HA
    simp only [quoinref21_Same.l0] at H
    by_cases c4 : x5_1 < (l0.length : Int)
    ·
     rw [if_pos c4] at H
     have c4b0 : decide (x5_1 < (l0.length : Int)) = true := decide_eq_true c4
     clear c4
     by_cases c5 : 0 ≤ x5_1
     ·
      rw [if_pos c5] at H
      have c5b0 : decide (0 ≤ x5_1) = true := decide_eq_true c5
      clear c5
      by_cases c6 : x5_1 < (l1.length : Int)
      ·
       rw [if_pos c6] at H
       have c6b0 : decide (x5_1 < (l1.length : Int)) = true := decide_eq_true c6
       clear c6
       try go_wp2
       have n0_ := Aside0.mk (below_drew1 HB.out)
       clear HB
       have HB := n0_
       clear n0_
       have p160 : 0 ≤ (x5_1 : Int) := of_decide_eq_true (by first | (with_reducible assumption) | assumption)
       have q160 : x5_1 < (l0.length : Int) := of_decide_eq_true (by first | (with_reducible assumption) | assumption)
       obtain ⟨ad160, A160_1, c160_1, e160, hx160_0, hx160_1, hx160_2, hx160_3, hx160_4, hx160_5, hx160_6, hl160_1, hi160_1⟩ := at_T31 HR0.out x5_1 p160 q160
       have hw160_6 := hx160_6
       have hw160_5 := hx160_5
       have hw160_4 := hx160_4
       have hw160_3 := hx160_3
       have hw160_2 := hx160_2
       have hw160_1 := hx160_1
       have hw160_0 := hx160_0
       cases e160
       replace hx160_0 := (HB.out.cell (World.block_lt_of_cell? w _ hx160_0)).trans hx160_0
       replace hx160_1 := (HB.out.cell (World.block_lt_of_cell? w _ hx160_1)).trans hx160_1
       replace hx160_2 := (HB.out.cell (World.block_lt_of_cell? w _ hx160_2)).trans hx160_2
       replace hx160_3 := (HB.out.cell (World.block_lt_of_cell? w _ hx160_3)).trans hx160_3
       replace hx160_4 := (HB.out.cell (World.block_lt_of_cell? w _ hx160_4)).trans hx160_4
       replace hx160_5 := (HB.out.cell (World.block_lt_of_cell? w _ hx160_5)).trans hx160_5
       replace hx160_6 := (HB.out.cell (World.block_lt_of_cell? w _ hx160_6)).trans hx160_6
       have HR160_1 := Aside0.mk hi160_1
       have HC160_1 := Aside0.mk hl160_1
       clear hi160_1 hl160_1
       replace p160 := eq_true p160
       replace q160 := eq_true q160
       have p161 : 0 ≤ (x5_1 : Int) := of_decide_eq_true (by first | (with_reducible assumption) | assumption)
       have q161 : x5_1 < (l1.length : Int) := of_decide_eq_true (by first | (with_reducible assumption) | assumption)
       obtain ⟨ad161, A161_1, c161_1, e161, hx161_0, hx161_1, hx161_2, hx161_3, hx161_4, hx161_5, hx161_6, hl161_1, hi161_1⟩ := at_T31 HR1.out x5_1 p161 q161
       have hw161_6 := hx161_6
       have hw161_5 := hx161_5
       have hw161_4 := hx161_4
       have hw161_3 := hx161_3
       have hw161_2 := hx161_2
       have hw161_1 := hx161_1
       have hw161_0 := hx161_0
       cases e161
       replace hx161_0 := (HB.out.cell (World.block_lt_of_cell? w _ hx161_0)).trans hx161_0
       replace hx161_1 := (HB.out.cell (World.block_lt_of_cell? w _ hx161_1)).trans hx161_1
       replace hx161_2 := (HB.out.cell (World.block_lt_of_cell? w _ hx161_2)).trans hx161_2
       replace hx161_3 := (HB.out.cell (World.block_lt_of_cell? w _ hx161_3)).trans hx161_3
       replace hx161_4 := (HB.out.cell (World.block_lt_of_cell? w _ hx161_4)).trans hx161_4
       replace hx161_5 := (HB.out.cell (World.block_lt_of_cell? w _ hx161_5)).trans hx161_5
       replace hx161_6 := (HB.out.cell (World.block_lt_of_cell? w _ hx161_6)).trans hx161_6
       have HR161_1 := Aside0.mk hi161_1
       have HC161_1 := Aside0.mk hl161_1
       clear hi161_1 hl161_1
       replace p161 := eq_true p161
       replace q161 := eq_true q161
       refine start_ (n := 12) (S := fun w' => w'.cell? (ad160.add ((x5_1).toNat * 7)) = some (.int .u8 ((rd_T31 l0 x5_1).f0)) ∧ w'.cell? ⟨(ad160.add ((x5_1).toNat * 7)).block, (ad160.add ((x5_1).toNat * 7)).off + 1, none⟩ = some (.slice A160_1 ((rd_T31 l0 x5_1).f1).length c160_1) ∧ w'.cell? ⟨(ad160.add ((x5_1).toNat * 7)).block, (ad160.add ((x5_1).toNat * 7)).off + 2, none⟩ = some (.int .u8 ((rd_T31 l0 x5_1).f2)) ∧ w'.cell? ⟨(ad160.add ((x5_1).toNat * 7)).block, (ad160.add ((x5_1).toNat * 7)).off + 3, none⟩ = some (.string ((rd_T31 l0 x5_1).f3)) ∧ w'.cell? ⟨(ad160.add ((x5_1).toNat * 7)).block, (ad160.add ((x5_1).toNat * 7)).off + 4, none⟩ = some (.string ((rd_T31 l0 x5_1).f4)) ∧ w'.cell? ⟨(ad160.add ((x5_1).toNat * 7)).block, (ad160.add ((x5_1).toNat * 7)).off + 5, none⟩ = some (.int .i64 ((rd_T31 l0 x5_1).f5)) ∧ w'.cell? ⟨(ad160.add ((x5_1).toNat * 7)).block, (ad160.add ((x5_1).toNat * 7)).off + 6, none⟩ = some (.int .i64 ((rd_T31 l0 x5_1).f6)) ∧ w'.cell? (ad161.add ((x5_1).toNat * 7)) = some (.int .u8 ((rd_T31 l1 x5_1).f0)) ∧ w'.cell? ⟨(ad161.add ((x5_1).toNat * 7)).block, (ad161.add ((x5_1).toNat * 7)).off + 1, none⟩ = some (.slice A161_1 ((rd_T31 l1 x5_1).f1).length c161_1) ∧ w'.cell? ⟨(ad161.add ((x5_1).toNat * 7)).block, (ad161.add ((x5_1).toNat * 7)).off + 2, none⟩ = some (.int .u8 ((rd_T31 l1 x5_1).f2)) ∧ w'.cell? ⟨(ad161.add ((x5_1).toNat * 7)).block, (ad161.add ((x5_1).toNat * 7)).off + 3, none⟩ = some (.string ((rd_T31 l1 x5_1).f3)) ∧ w'.cell? ⟨(ad161.add ((x5_1).toNat * 7)).block, (ad161.add ((x5_1).toNat * 7)).off + 4, none⟩ = some (.string ((rd_T31 l1 x5_1).f4)) ∧ w'.cell? ⟨(ad161.add ((x5_1).toNat * 7)).block, (ad161.add ((x5_1).toNat * 7)).off + 5, none⟩ = some (.int .i64 ((rd_T31 l1 x5_1).f5)) ∧ w'.cell? ⟨(ad161.add ((x5_1).toNat * 7)).block, (ad161.add ((x5_1).toNat * 7)).off + 6, none⟩ = some (.int .i64 ((rd_T31 l1 x5_1).f6))) (ds := []) #[false, false, false, false, false, false, false, false, false, false, false, false] (by kernel_rfl) rfl rfl ⟨((HB.out.cell (World.block_lt_of_cell? w _ hw160_0)).trans hw160_0), ((HB.out.cell (World.block_lt_of_cell? w _ hw160_1)).trans hw160_1), ((HB.out.cell (World.block_lt_of_cell? w _ hw160_2)).trans hw160_2), ((HB.out.cell (World.block_lt_of_cell? w _ hw160_3)).trans hw160_3), ((HB.out.cell (World.block_lt_of_cell? w _ hw160_4)).trans hw160_4), ((HB.out.cell (World.block_lt_of_cell? w _ hw160_5)).trans hw160_5), ((HB.out.cell (World.block_lt_of_cell? w _ hw160_6)).trans hw160_6), ((HB.out.cell (World.block_lt_of_cell? w _ hw161_0)).trans hw161_0), ((HB.out.cell (World.block_lt_of_cell? w _ hw161_1)).trans hw161_1), ((HB.out.cell (World.block_lt_of_cell? w _ hw161_2)).trans hw161_2), ((HB.out.cell (World.block_lt_of_cell? w _ hw161_3)).trans hw161_3), ((HB.out.cell (World.block_lt_of_cell? w _ hw161_4)).trans hw161_4), ((HB.out.cell (World.block_lt_of_cell? w _ hw161_5)).trans hw161_5), ((HB.out.cell (World.block_lt_of_cell? w _ hw161_6)).trans hw161_6)⟩ (fun hHeld => ?_); refine with_tabW quoinref21_Same.tab6 quoinref21_Same.bits6 (fun HT_ HW_ => ?_)
       generalize wr.drew = w14 at HB HR160_1 HR161_1 hx160_0 hx160_1 hx160_2 hx160_3 hx160_4 hx160_5 hx160_6 hx161_0 hx161_1 hx161_2 hx161_3 hx161_4 hx161_5 hx161_6 hHeld ⊢
       refine pure_ (i := 0) (N := some 19) (v := ?_) (a' := ?_) #[true, false, false, false, false, false, false, false, false, false, false, false] rfl rfl (any_of HT_.out (by kernel_rfl)) (fun _ _ _ h => h) (Or.inl ⟨by rfl, ?_⟩) ?_ ?_
       rotate_left
       ·
        intro w'
        go_simp
        with_reducible rfl
       rotate_left
       ·
        simp only [Act.put, List.setIfInBounds_toArray, List.set_cons_zero, List.set_cons_succ, i64_w, i32_w, IntKind.wrap_u8, IntKind.wrap_u32]
        rfl
       refine pure_ (i := 1) (N := some 20) (v := ?_) (a' := ?_) #[true, true, false, false, false, false, false, false, false, false, false, false] rfl rfl (any_of HT_.out (by kernel_rfl)) (fun _ _ _ h => h) (Or.inl ⟨by rfl, ?_⟩) ?_ ?_
       rotate_left
       ·
        intro w'
        go_simp
        with_reducible rfl
       rotate_left
       ·
        simp only [Act.put, List.setIfInBounds_toArray, List.set_cons_zero, List.set_cons_succ, i64_w, i32_w, IntKind.wrap_u8, IntKind.wrap_u32]
        rfl
       refine pure_ (i := 2) (N := some 21) (v := ?_) (a' := ?_) #[true, true, true, false, false, false, false, false, false, false, false, false] rfl rfl (any_of HT_.out (by kernel_rfl)) (fun _ _ _ h => h) (Or.inl ⟨by rfl, ?_⟩) ?_ ?_
       rotate_left
       ·
        intro w'
        go_simp
        with_reducible rfl
       rotate_left
       ·
        simp only [Act.put, List.setIfInBounds_toArray, List.set_cons_zero, List.set_cons_succ, i64_w, i32_w, IntKind.wrap_u8, IntKind.wrap_u32]
        rfl
       refine pure_ (i := 4) (N := some 23) (v := ?_) (a' := ?_) #[true, true, true, false, true, false, false, false, false, false, false, false] rfl rfl (any_of HT_.out (by kernel_rfl)) (fun _ _ _ h => h) (Or.inl ⟨by rfl, ?_⟩) ?_ ?_
       rotate_left
       ·
        intro w'
        go_simp
        with_reducible rfl
       rotate_left
       ·
        simp only [Act.put, List.setIfInBounds_toArray, List.set_cons_zero, List.set_cons_succ, i64_w, i32_w, IntKind.wrap_u8, IntKind.wrap_u32]
        rfl
       refine pure_ (i := 5) (N := some 24) (v := ?_) (a' := ?_) #[true, true, true, false, true, true, false, false, false, false, false, false] rfl rfl (any_of HT_.out (by kernel_rfl)) (fun _ _ _ h => h) (Or.inl ⟨by rfl, ?_⟩) ?_ ?_
       rotate_left
       ·
        intro w'
        go_simp
        with_reducible rfl
       rotate_left
       ·
        simp only [Act.put, List.setIfInBounds_toArray, List.set_cons_zero, List.set_cons_succ, i64_w, i32_w, IntKind.wrap_u8, IntKind.wrap_u32]
        rfl
       refine pure_ (i := 6) (N := some 25) (v := ?_) (a' := ?_) #[true, true, true, false, true, true, true, false, false, false, false, false] rfl rfl (any_of HT_.out (by kernel_rfl)) (fun _ _ _ h => h) (Or.inl ⟨by rfl, ?_⟩) ?_ ?_
       rotate_left
       ·
        intro w'
        go_simp
        with_reducible rfl
       rotate_left
       ·
        simp only [Act.put, List.setIfInBounds_toArray, List.set_cons_zero, List.set_cons_succ, i64_w, i32_w, IntKind.wrap_u8, IntKind.wrap_u32]
        rfl
       refine take_ (i := 3) (N := some 22) (v := ?_) (a' := ?_) #[true, true, true, true, true, true, true, false, false, false, false, false] rfl rfl (take_ofW HT_.out HW_.out (by kernel_rfl)) (fun _ _ _ h => h) (Or.inl ⟨by rfl, ?_⟩) hHeld ?_ ?_
       rotate_left
       ·
        rintro w' ⟨s0, s1, s2, s3, s4, s5, s6, s7, s8, s9, s10, s11, s12, s13⟩
        go_simp
        with_reducible rfl
       rotate_left
       ·
        simp only [Act.put, List.setIfInBounds_toArray, List.set_cons_zero, List.set_cons_succ, i64_w, i32_w, IntKind.wrap_u8, IntKind.wrap_u32]
        rfl
       refine take_ (i := 7) (N := some 26) (v := ?_) (a' := ?_) #[true, true, true, true, true, true, true, true, false, false, false, false] rfl rfl (take_ofW HT_.out HW_.out (by kernel_rfl)) (fun _ _ _ h => h) (Or.inl ⟨by rfl, ?_⟩) hHeld ?_ ?_
       rotate_left
       ·
        rintro w' ⟨s0, s1, s2, s3, s4, s5, s6, s7, s8, s9, s10, s11, s12, s13⟩
        go_simp
        with_reducible rfl
       rotate_left
       ·
        simp only [Act.put, List.setIfInBounds_toArray, List.set_cons_zero, List.set_cons_succ, i64_w, i32_w, IntKind.wrap_u8, IntKind.wrap_u32]
        rfl
       refine join_ (σ := Nat × Nat) 2 #[true, true, true, true, true, true, true, true, true, true, false, false] (fun s_ => [(6, .pointer (some ⟨s_.1, 0, none⟩)), (7, .pointer (some ⟨s_.2, 0, none⟩))]) (fun s_ w' => (w'.cell? (ad160.add ((x5_1).toNat * 7)) = some (.int .u8 ((rd_T31 l0 x5_1).f0)) ∧ w'.cell? ⟨(ad160.add ((x5_1).toNat * 7)).block, (ad160.add ((x5_1).toNat * 7)).off + 1, none⟩ = some (.slice A160_1 ((rd_T31 l0 x5_1).f1).length c160_1) ∧ w'.cell? ⟨(ad160.add ((x5_1).toNat * 7)).block, (ad160.add ((x5_1).toNat * 7)).off + 2, none⟩ = some (.int .u8 ((rd_T31 l0 x5_1).f2)) ∧ w'.cell? ⟨(ad160.add ((x5_1).toNat * 7)).block, (ad160.add ((x5_1).toNat * 7)).off + 3, none⟩ = some (.string ((rd_T31 l0 x5_1).f3)) ∧ w'.cell? ⟨(ad160.add ((x5_1).toNat * 7)).block, (ad160.add ((x5_1).toNat * 7)).off + 4, none⟩ = some (.string ((rd_T31 l0 x5_1).f4)) ∧ w'.cell? ⟨(ad160.add ((x5_1).toNat * 7)).block, (ad160.add ((x5_1).toNat * 7)).off + 5, none⟩ = some (.int .i64 ((rd_T31 l0 x5_1).f5)) ∧ w'.cell? ⟨(ad160.add ((x5_1).toNat * 7)).block, (ad160.add ((x5_1).toNat * 7)).off + 6, none⟩ = some (.int .i64 ((rd_T31 l0 x5_1).f6)) ∧ w'.cell? (ad161.add ((x5_1).toNat * 7)) = some (.int .u8 ((rd_T31 l1 x5_1).f0)) ∧ w'.cell? ⟨(ad161.add ((x5_1).toNat * 7)).block, (ad161.add ((x5_1).toNat * 7)).off + 1, none⟩ = some (.slice A161_1 ((rd_T31 l1 x5_1).f1).length c161_1) ∧ w'.cell? ⟨(ad161.add ((x5_1).toNat * 7)).block, (ad161.add ((x5_1).toNat * 7)).off + 2, none⟩ = some (.int .u8 ((rd_T31 l1 x5_1).f2)) ∧ w'.cell? ⟨(ad161.add ((x5_1).toNat * 7)).block, (ad161.add ((x5_1).toNat * 7)).off + 3, none⟩ = some (.string ((rd_T31 l1 x5_1).f3)) ∧ w'.cell? ⟨(ad161.add ((x5_1).toNat * 7)).block, (ad161.add ((x5_1).toNat * 7)).off + 4, none⟩ = some (.string ((rd_T31 l1 x5_1).f4)) ∧ w'.cell? ⟨(ad161.add ((x5_1).toNat * 7)).block, (ad161.add ((x5_1).toNat * 7)).off + 5, none⟩ = some (.int .i64 ((rd_T31 l1 x5_1).f5)) ∧ w'.cell? ⟨(ad161.add ((x5_1).toNat * 7)).block, (ad161.add ((x5_1).toNat * 7)).off + 6, none⟩ = some (.int .i64 ((rd_T31 l1 x5_1).f6))) ∧ (w'.heap[s_.1]? = some (.cells #[.int .u8 0, .slice none 0 0, .int .u8 0, .string (⟨#[]⟩ : ByteArray), .string (⟨#[]⟩ : ByteArray), .int .i64 0, .int .i64 0] 31 (0, 0))) ∧ (w'.heap[s_.2]? = some (.cells #[.int .u8 0, .slice none 0 0, .int .u8 0, .string (⟨#[]⟩ : ByteArray), .string (⟨#[]⟩ : ByteArray), .int .i64 0, .int .i64 0] 31 (0, 0))) ∧ (w.heap.size ≤ s_.1) ∧ (w.heap.size ≤ s_.1) ∧ (s_.2 ≠ s_.1) ∧ (s_.1 ≠ s_.2) ∧ (w.heap.size ≤ s_.2) ∧ (w.heap.size ≤ s_.2) ∧ (Below w.heap.size w w')) ?_ ?_
       rotate_left
       ·
        intro hCont
        refine two_ (i := 8) (j := 9) (Ni := some 6) (Nj := some 7) #[true, true, true, true, true, true, true, true, true, false, false, false] #[true, true, true, true, true, true, true, true, false, true, false, false] rfl rfl rfl rfl (two_of HT_.out (by kernel_rfl)) (by decide) (by decide) (fun K hK => ?_) (fun K hK => ?_)
        ·
         skip
         refine box_step ?hg (N := 6) ?hd (cs := #[.int .u8 0, .slice none 0 0, .int .u8 0, .string (⟨#[]⟩ : ByteArray), .string (⟨#[]⟩ : ByteArray), .int .i64 0, .int .i64 0]) (t := 31) ?hr ?_; (case hd => rfl); (case hg => rfl); (case hr => first | (go_simp; done) | (go_simp; rfl))
         intro gb162 hg w15 hbox hb
         have n0_ := Aside0.mk (below_step (by repeat (first | (with_reducible first | exact HB.out | apply below_alloc | apply pw_below_drewN | apply below_drew1) | exact HB.out)) hb)
         have n1_ := Aside0.mk (hbox)
         have n2_ := Aside0.mk ((by rw [hg]; exact (below_size (by repeat (first | (with_reducible first | exact HB.out | apply below_alloc | apply pw_below_drewN | apply below_drew1) | exact HB.out))) : w.heap.size ≤ gb162))
         have n3_ := Aside0.mk ((by rw [hg]; exact (below_size (by repeat (first | (with_reducible first | exact HB.out | apply below_alloc | apply pw_below_drewN | apply below_drew1) | exact HB.out))) : w.heap.size ≤ gb162))
         clear HB
         have HB := n0_
         have BK162 := n1_
         have GW162 := n2_
         have GE162 := n3_
         clear n0_ n1_ n2_ n3_
         clear hb hbox hg
         refine hK.out _ _ ⟨((HB.out.cell (World.block_lt_of_cell? w _ hw160_0)).trans hw160_0), ((HB.out.cell (World.block_lt_of_cell? w _ hw160_1)).trans hw160_1), ((HB.out.cell (World.block_lt_of_cell? w _ hw160_2)).trans hw160_2), ((HB.out.cell (World.block_lt_of_cell? w _ hw160_3)).trans hw160_3), ((HB.out.cell (World.block_lt_of_cell? w _ hw160_4)).trans hw160_4), ((HB.out.cell (World.block_lt_of_cell? w _ hw160_5)).trans hw160_5), ((HB.out.cell (World.block_lt_of_cell? w _ hw160_6)).trans hw160_6), ((HB.out.cell (World.block_lt_of_cell? w _ hw161_0)).trans hw161_0), ((HB.out.cell (World.block_lt_of_cell? w _ hw161_1)).trans hw161_1), ((HB.out.cell (World.block_lt_of_cell? w _ hw161_2)).trans hw161_2), ((HB.out.cell (World.block_lt_of_cell? w _ hw161_3)).trans hw161_3), ((HB.out.cell (World.block_lt_of_cell? w _ hw161_4)).trans hw161_4), ((HB.out.cell (World.block_lt_of_cell? w _ hw161_5)).trans hw161_5), ((HB.out.cell (World.block_lt_of_cell? w _ hw161_6)).trans hw161_6)⟩ (fun hHeld => ?_)
         clear hK K
         refine norm_ (a' := ?_) ?_ ?_
         rotate_left
         ·
          show Act.put _ (some 6) _ = _
          simp only [Act.put, List.setIfInBounds_toArray, List.set_cons_zero, List.set_cons_succ, i64_w, i32_w, IntKind.wrap_u8, IntKind.wrap_u32]
          rfl
         refine one_ (i := 9) (N := some 7) #[true, true, true, true, true, true, true, true, true, true, false, false] rfl rfl (one_of HT_.out (by kernel_rfl)) (by decide) (fun K hK => ?_)
         refine box_step ?hg (N := 7) ?hd (cs := #[.int .u8 0, .slice none 0 0, .int .u8 0, .string (⟨#[]⟩ : ByteArray), .string (⟨#[]⟩ : ByteArray), .int .i64 0, .int .i64 0]) (t := 31) ?hr ?_; (case hd => rfl); (case hg => rfl); (case hr => first | (go_simp; done) | (go_simp; rfl))
         intro gb163 hg w16 hbox hb
         have n0_ := Aside0.mk (blk_below (g := gb162) (o := .cells #[.int .u8 0, .slice none 0 0, .int .u8 0, .string (⟨#[]⟩ : ByteArray), .string (⟨#[]⟩ : ByteArray), .int .i64 0, .int .i64 0] 31 (0, 0)) (by (with_reducible repeat (first | refine blk_drewN ?_ _ | refine blk_drew ?_ | refine blk_alloc ?_ _)); exact BK162.out) hb)
         have n1_ := Aside0.mk (below_step (by repeat (first | (with_reducible first | exact HB.out | apply below_alloc | apply pw_below_drewN | apply below_drew1 | refine below_set ?_ GE162.out) | exact HB.out)) hb)
         have n2_ := Aside0.mk (hbox)
         have n3_ := Aside0.mk ((by rw [hg]; exact (below_size (by repeat (first | (with_reducible first | exact HB.out | apply below_alloc | apply pw_below_drewN | apply below_drew1 | refine below_set ?_ GE162.out) | exact HB.out))) : w.heap.size ≤ gb163))
         have n4_ := Aside0.mk ((by rw [hg]; exact (below_size (by repeat (first | (with_reducible first | exact HB.out | apply below_alloc | apply pw_below_drewN | apply below_drew1 | refine below_set ?_ GE162.out) | exact HB.out))) : w.heap.size ≤ gb163))
         have n5_ := Aside0.mk ((by rw [hg]; exact Nat.ne_of_lt (blk_lt (g := gb162) (o := .cells #[.int .u8 0, .slice none 0 0, .int .u8 0, .string (⟨#[]⟩ : ByteArray), .string (⟨#[]⟩ : ByteArray), .int .i64 0, .int .i64 0] 31 (0, 0)) (by (with_reducible repeat (first | refine blk_drewN ?_ _ | refine blk_drew ?_ | refine blk_alloc ?_ _)); exact BK162.out)) : gb162 ≠ gb163))
         have n6_ := Aside0.mk ((by rw [hg]; exact Nat.ne_of_gt (blk_lt (g := gb162) (o := .cells #[.int .u8 0, .slice none 0 0, .int .u8 0, .string (⟨#[]⟩ : ByteArray), .string (⟨#[]⟩ : ByteArray), .int .i64 0, .int .i64 0] 31 (0, 0)) (by (with_reducible repeat (first | refine blk_drewN ?_ _ | refine blk_drew ?_ | refine blk_alloc ?_ _)); exact BK162.out)) : gb163 ≠ gb162))
         clear BK162
         clear HB
         have BK162 := n0_
         have HB := n1_
         have BK163 := n2_
         have GW163 := n3_
         have GE163 := n4_
         have NB162_163 := n5_
         have NB163_162 := n6_
         clear n0_ n1_ n2_ n3_ n4_ n5_ n6_
         clear hb hbox hg
         refine hK.out _ _ ⟨((HB.out.cell (World.block_lt_of_cell? w _ hw160_0)).trans hw160_0), ((HB.out.cell (World.block_lt_of_cell? w _ hw160_1)).trans hw160_1), ((HB.out.cell (World.block_lt_of_cell? w _ hw160_2)).trans hw160_2), ((HB.out.cell (World.block_lt_of_cell? w _ hw160_3)).trans hw160_3), ((HB.out.cell (World.block_lt_of_cell? w _ hw160_4)).trans hw160_4), ((HB.out.cell (World.block_lt_of_cell? w _ hw160_5)).trans hw160_5), ((HB.out.cell (World.block_lt_of_cell? w _ hw160_6)).trans hw160_6), ((HB.out.cell (World.block_lt_of_cell? w _ hw161_0)).trans hw161_0), ((HB.out.cell (World.block_lt_of_cell? w _ hw161_1)).trans hw161_1), ((HB.out.cell (World.block_lt_of_cell? w _ hw161_2)).trans hw161_2), ((HB.out.cell (World.block_lt_of_cell? w _ hw161_3)).trans hw161_3), ((HB.out.cell (World.block_lt_of_cell? w _ hw161_4)).trans hw161_4), ((HB.out.cell (World.block_lt_of_cell? w _ hw161_5)).trans hw161_5), ((HB.out.cell (World.block_lt_of_cell? w _ hw161_6)).trans hw161_6)⟩ (fun hHeld => ?_)
         clear hK K
         refine norm_ (a' := ?_) ?_ ?_
         rotate_left
         ·
          show Act.put _ (some 7) _ = _
          simp only [Act.put, List.setIfInBounds_toArray, List.set_cons_zero, List.set_cons_succ, i64_w, i32_w, IntKind.wrap_u8, IntKind.wrap_u32]
          rfl
         exact norm_ (by simp only [putAll, Act.put, List.setIfInBounds_toArray, List.set_cons_zero, List.set_cons_succ]) (hCont (gb162, gb163) _ ⟨hHeld, (by (with_reducible repeat (first | refine blk_drewN ?_ _ | refine blk_drew ?_ | refine blk_alloc ?_ _)); exact BK162.out), (by (with_reducible repeat (first | refine blk_drewN ?_ _ | refine blk_drew ?_ | refine blk_alloc ?_ _)); exact BK163.out), GW162.out, GE162.out, NB163_162.out, NB162_163.out, GW163.out, GE163.out, (by repeat (first | (with_reducible first | exact HB.out | apply below_alloc | apply pw_below_drewN | apply below_drew1 | refine below_set ?_ GE162.out | refine below_set ?_ GE163.out) | exact HB.out))⟩)
        ·
         skip
         refine box_step ?hg (N := 7) ?hd (cs := #[.int .u8 0, .slice none 0 0, .int .u8 0, .string (⟨#[]⟩ : ByteArray), .string (⟨#[]⟩ : ByteArray), .int .i64 0, .int .i64 0]) (t := 31) ?hr ?_; (case hd => rfl); (case hg => rfl); (case hr => first | (go_simp; done) | (go_simp; rfl))
         intro gb163 hg w15 hbox hb
         have n0_ := Aside0.mk (below_step (by repeat (first | (with_reducible first | exact HB.out | apply below_alloc | apply pw_below_drewN | apply below_drew1) | exact HB.out)) hb)
         have n1_ := Aside0.mk (hbox)
         have n2_ := Aside0.mk ((by rw [hg]; exact (below_size (by repeat (first | (with_reducible first | exact HB.out | apply below_alloc | apply pw_below_drewN | apply below_drew1) | exact HB.out))) : w.heap.size ≤ gb163))
         have n3_ := Aside0.mk ((by rw [hg]; exact (below_size (by repeat (first | (with_reducible first | exact HB.out | apply below_alloc | apply pw_below_drewN | apply below_drew1) | exact HB.out))) : w.heap.size ≤ gb163))
         clear HB
         have HB := n0_
         have BK163 := n1_
         have GW163 := n2_
         have GE163 := n3_
         clear n0_ n1_ n2_ n3_
         clear hb hbox hg
         refine hK.out _ _ ⟨((HB.out.cell (World.block_lt_of_cell? w _ hw160_0)).trans hw160_0), ((HB.out.cell (World.block_lt_of_cell? w _ hw160_1)).trans hw160_1), ((HB.out.cell (World.block_lt_of_cell? w _ hw160_2)).trans hw160_2), ((HB.out.cell (World.block_lt_of_cell? w _ hw160_3)).trans hw160_3), ((HB.out.cell (World.block_lt_of_cell? w _ hw160_4)).trans hw160_4), ((HB.out.cell (World.block_lt_of_cell? w _ hw160_5)).trans hw160_5), ((HB.out.cell (World.block_lt_of_cell? w _ hw160_6)).trans hw160_6), ((HB.out.cell (World.block_lt_of_cell? w _ hw161_0)).trans hw161_0), ((HB.out.cell (World.block_lt_of_cell? w _ hw161_1)).trans hw161_1), ((HB.out.cell (World.block_lt_of_cell? w _ hw161_2)).trans hw161_2), ((HB.out.cell (World.block_lt_of_cell? w _ hw161_3)).trans hw161_3), ((HB.out.cell (World.block_lt_of_cell? w _ hw161_4)).trans hw161_4), ((HB.out.cell (World.block_lt_of_cell? w _ hw161_5)).trans hw161_5), ((HB.out.cell (World.block_lt_of_cell? w _ hw161_6)).trans hw161_6)⟩ (fun hHeld => ?_)
         clear hK K
         refine norm_ (a' := ?_) ?_ ?_
         rotate_left
         ·
          show Act.put _ (some 7) _ = _
          simp only [Act.put, List.setIfInBounds_toArray, List.set_cons_zero, List.set_cons_succ, i64_w, i32_w, IntKind.wrap_u8, IntKind.wrap_u32]
          rfl
         refine one_ (i := 8) (N := some 6) #[true, true, true, true, true, true, true, true, true, true, false, false] rfl rfl (one_of HT_.out (by kernel_rfl)) (by decide) (fun K hK => ?_)
         refine box_step ?hg (N := 6) ?hd (cs := #[.int .u8 0, .slice none 0 0, .int .u8 0, .string (⟨#[]⟩ : ByteArray), .string (⟨#[]⟩ : ByteArray), .int .i64 0, .int .i64 0]) (t := 31) ?hr ?_; (case hd => rfl); (case hg => rfl); (case hr => first | (go_simp; done) | (go_simp; rfl))
         intro gb162 hg w16 hbox hb
         have n0_ := Aside0.mk (blk_below (g := gb163) (o := .cells #[.int .u8 0, .slice none 0 0, .int .u8 0, .string (⟨#[]⟩ : ByteArray), .string (⟨#[]⟩ : ByteArray), .int .i64 0, .int .i64 0] 31 (0, 0)) (by (with_reducible repeat (first | refine blk_drewN ?_ _ | refine blk_drew ?_ | refine blk_alloc ?_ _)); exact BK163.out) hb)
         have n1_ := Aside0.mk (below_step (by repeat (first | (with_reducible first | exact HB.out | apply below_alloc | apply pw_below_drewN | apply below_drew1 | refine below_set ?_ GE163.out) | exact HB.out)) hb)
         have n2_ := Aside0.mk (hbox)
         have n3_ := Aside0.mk ((by rw [hg]; exact (below_size (by repeat (first | (with_reducible first | exact HB.out | apply below_alloc | apply pw_below_drewN | apply below_drew1 | refine below_set ?_ GE163.out) | exact HB.out))) : w.heap.size ≤ gb162))
         have n4_ := Aside0.mk ((by rw [hg]; exact (below_size (by repeat (first | (with_reducible first | exact HB.out | apply below_alloc | apply pw_below_drewN | apply below_drew1 | refine below_set ?_ GE163.out) | exact HB.out))) : w.heap.size ≤ gb162))
         have n5_ := Aside0.mk ((by rw [hg]; exact Nat.ne_of_lt (blk_lt (g := gb163) (o := .cells #[.int .u8 0, .slice none 0 0, .int .u8 0, .string (⟨#[]⟩ : ByteArray), .string (⟨#[]⟩ : ByteArray), .int .i64 0, .int .i64 0] 31 (0, 0)) (by (with_reducible repeat (first | refine blk_drewN ?_ _ | refine blk_drew ?_ | refine blk_alloc ?_ _)); exact BK163.out)) : gb163 ≠ gb162))
         have n6_ := Aside0.mk ((by rw [hg]; exact Nat.ne_of_gt (blk_lt (g := gb163) (o := .cells #[.int .u8 0, .slice none 0 0, .int .u8 0, .string (⟨#[]⟩ : ByteArray), .string (⟨#[]⟩ : ByteArray), .int .i64 0, .int .i64 0] 31 (0, 0)) (by (with_reducible repeat (first | refine blk_drewN ?_ _ | refine blk_drew ?_ | refine blk_alloc ?_ _)); exact BK163.out)) : gb162 ≠ gb163))
         clear BK163
         clear HB
         have BK163 := n0_
         have HB := n1_
         have BK162 := n2_
         have GW162 := n3_
         have GE162 := n4_
         have NB163_162 := n5_
         have NB162_163 := n6_
         clear n0_ n1_ n2_ n3_ n4_ n5_ n6_
         clear hb hbox hg
         refine hK.out _ _ ⟨((HB.out.cell (World.block_lt_of_cell? w _ hw160_0)).trans hw160_0), ((HB.out.cell (World.block_lt_of_cell? w _ hw160_1)).trans hw160_1), ((HB.out.cell (World.block_lt_of_cell? w _ hw160_2)).trans hw160_2), ((HB.out.cell (World.block_lt_of_cell? w _ hw160_3)).trans hw160_3), ((HB.out.cell (World.block_lt_of_cell? w _ hw160_4)).trans hw160_4), ((HB.out.cell (World.block_lt_of_cell? w _ hw160_5)).trans hw160_5), ((HB.out.cell (World.block_lt_of_cell? w _ hw160_6)).trans hw160_6), ((HB.out.cell (World.block_lt_of_cell? w _ hw161_0)).trans hw161_0), ((HB.out.cell (World.block_lt_of_cell? w _ hw161_1)).trans hw161_1), ((HB.out.cell (World.block_lt_of_cell? w _ hw161_2)).trans hw161_2), ((HB.out.cell (World.block_lt_of_cell? w _ hw161_3)).trans hw161_3), ((HB.out.cell (World.block_lt_of_cell? w _ hw161_4)).trans hw161_4), ((HB.out.cell (World.block_lt_of_cell? w _ hw161_5)).trans hw161_5), ((HB.out.cell (World.block_lt_of_cell? w _ hw161_6)).trans hw161_6)⟩ (fun hHeld => ?_)
         clear hK K
         refine norm_ (a' := ?_) ?_ ?_
         rotate_left
         ·
          show Act.put _ (some 6) _ = _
          simp only [Act.put, List.setIfInBounds_toArray, List.set_cons_zero, List.set_cons_succ, i64_w, i32_w, IntKind.wrap_u8, IntKind.wrap_u32]
          rfl
         exact norm_ (by simp only [putAll, Act.put, List.setIfInBounds_toArray, List.set_cons_zero, List.set_cons_succ]) (hCont (gb162, gb163) _ ⟨hHeld, (by (with_reducible repeat (first | refine blk_drewN ?_ _ | refine blk_drew ?_ | refine blk_alloc ?_ _)); exact BK162.out), (by (with_reducible repeat (first | refine blk_drewN ?_ _ | refine blk_drew ?_ | refine blk_alloc ?_ _)); exact BK163.out), GW162.out, GE162.out, NB163_162.out, NB162_163.out, GW163.out, GE163.out, (by repeat (first | (with_reducible first | exact HB.out | apply below_alloc | apply pw_below_drewN | apply below_drew1 | refine below_set ?_ GE163.out | refine below_set ?_ GE162.out) | exact HB.out))⟩)
       rintro ⟨gb162, gb163⟩ w17 ⟨hS_, h0_, h1_, h2_, h3_, h4_, h5_, h6_, h7_, h8_⟩
       have n0_ : Aside0 (w17.heap[gb162]? = some (.cells #[.int .u8 0, .slice none 0 0, .int .u8 0, .string (⟨#[]⟩ : ByteArray), .string (⟨#[]⟩ : ByteArray), .int .i64 0, .int .i64 0] 31 (0, 0))) := ⟨h0_⟩
       have n1_ : Aside0 (w17.heap[gb163]? = some (.cells #[.int .u8 0, .slice none 0 0, .int .u8 0, .string (⟨#[]⟩ : ByteArray), .string (⟨#[]⟩ : ByteArray), .int .i64 0, .int .i64 0] 31 (0, 0))) := ⟨h1_⟩
       have n2_ : Aside0 (w.heap.size ≤ gb162) := ⟨h2_⟩
       have n3_ : Aside0 (w.heap.size ≤ gb162) := ⟨h3_⟩
       have n4_ : Aside0 (gb163 ≠ gb162) := ⟨h4_⟩
       have n5_ : Aside0 (gb162 ≠ gb163) := ⟨h5_⟩
       have n6_ : Aside0 (w.heap.size ≤ gb163) := ⟨h6_⟩
       have n7_ : Aside0 (w.heap.size ≤ gb163) := ⟨h7_⟩
       have n8_ : Aside0 (Below w.heap.size w w17) := ⟨h8_⟩
       clear HB
       clear h0_ h1_ h2_ h3_ h4_ h5_ h6_ h7_ h8_
       have BK162 := n0_
       have BK163 := n1_
       have GW162 := n2_
       have GE162 := n3_
       have NB163_162 := n4_
       have NB162_163 := n5_
       have GW163 := n6_
       have GE163 := n7_
       have HB := n8_
       clear n0_ n1_ n2_ n3_ n4_ n5_ n6_ n7_ n8_
       have hHeld : w17.cell? (ad160.add ((x5_1).toNat * 7)) = some (.int .u8 ((rd_T31 l0 x5_1).f0)) ∧ w17.cell? ⟨(ad160.add ((x5_1).toNat * 7)).block, (ad160.add ((x5_1).toNat * 7)).off + 1, none⟩ = some (.slice A160_1 ((rd_T31 l0 x5_1).f1).length c160_1) ∧ w17.cell? ⟨(ad160.add ((x5_1).toNat * 7)).block, (ad160.add ((x5_1).toNat * 7)).off + 2, none⟩ = some (.int .u8 ((rd_T31 l0 x5_1).f2)) ∧ w17.cell? ⟨(ad160.add ((x5_1).toNat * 7)).block, (ad160.add ((x5_1).toNat * 7)).off + 3, none⟩ = some (.string ((rd_T31 l0 x5_1).f3)) ∧ w17.cell? ⟨(ad160.add ((x5_1).toNat * 7)).block, (ad160.add ((x5_1).toNat * 7)).off + 4, none⟩ = some (.string ((rd_T31 l0 x5_1).f4)) ∧ w17.cell? ⟨(ad160.add ((x5_1).toNat * 7)).block, (ad160.add ((x5_1).toNat * 7)).off + 5, none⟩ = some (.int .i64 ((rd_T31 l0 x5_1).f5)) ∧ w17.cell? ⟨(ad160.add ((x5_1).toNat * 7)).block, (ad160.add ((x5_1).toNat * 7)).off + 6, none⟩ = some (.int .i64 ((rd_T31 l0 x5_1).f6)) ∧ w17.cell? (ad161.add ((x5_1).toNat * 7)) = some (.int .u8 ((rd_T31 l1 x5_1).f0)) ∧ w17.cell? ⟨(ad161.add ((x5_1).toNat * 7)).block, (ad161.add ((x5_1).toNat * 7)).off + 1, none⟩ = some (.slice A161_1 ((rd_T31 l1 x5_1).f1).length c161_1) ∧ w17.cell? ⟨(ad161.add ((x5_1).toNat * 7)).block, (ad161.add ((x5_1).toNat * 7)).off + 2, none⟩ = some (.int .u8 ((rd_T31 l1 x5_1).f2)) ∧ w17.cell? ⟨(ad161.add ((x5_1).toNat * 7)).block, (ad161.add ((x5_1).toNat * 7)).off + 3, none⟩ = some (.string ((rd_T31 l1 x5_1).f3)) ∧ w17.cell? ⟨(ad161.add ((x5_1).toNat * 7)).block, (ad161.add ((x5_1).toNat * 7)).off + 4, none⟩ = some (.string ((rd_T31 l1 x5_1).f4)) ∧ w17.cell? ⟨(ad161.add ((x5_1).toNat * 7)).block, (ad161.add ((x5_1).toNat * 7)).off + 5, none⟩ = some (.int .i64 ((rd_T31 l1 x5_1).f5)) ∧ w17.cell? ⟨(ad161.add ((x5_1).toNat * 7)).block, (ad161.add ((x5_1).toNat * 7)).off + 6, none⟩ = some (.int .i64 ((rd_T31 l1 x5_1).f6)) := hS_
       refine norm_ (a' := ?_) ?_ ?_
       rotate_left
       ·
        simp only [putAll, Act.put, List.setIfInBounds_toArray, List.set_cons_zero, List.set_cons_succ]
        rfl
       refine one_ (i := 10) (N := none) #[true, true, true, true, true, true, true, true, true, true, true, false] rfl rfl (one_of HT_.out (by kernel_rfl)) (by decide) (fun K hK => ?_)
       have hs18 : w17.cell? ⟨gb162, 0, none⟩ = some (.int .u8 0) := (blk_cell BK162.out 0).trans rfl
       have hfs18 := blk_frozen BK162.out 0
       have hns18_1 := NB163_162.out
       have hms18_1 := NB162_163.out
       have hs19 : w17.cell? ⟨gb162, 1, none⟩ = some (.slice none 0 0) := (blk_cell BK162.out 1).trans rfl
       have hfs19 := blk_frozen BK162.out 1
       have hns19_1 := NB163_162.out
       have hms19_1 := NB162_163.out
       have hs20 : w17.cell? ⟨gb162, 2, none⟩ = some (.int .u8 0) := (blk_cell BK162.out 2).trans rfl
       have hfs20 := blk_frozen BK162.out 2
       have hns20_1 := NB163_162.out
       have hms20_1 := NB162_163.out
       have hs21 : w17.cell? ⟨gb162, 3, none⟩ = some (.string (⟨#[]⟩ : ByteArray)) := (blk_cell BK162.out 3).trans rfl
       have hfs21 := blk_frozen BK162.out 3
       have hns21_1 := NB163_162.out
       have hms21_1 := NB162_163.out
       have hs22 : w17.cell? ⟨gb162, 4, none⟩ = some (.string (⟨#[]⟩ : ByteArray)) := (blk_cell BK162.out 4).trans rfl
       have hfs22 := blk_frozen BK162.out 4
       have hns22_1 := NB163_162.out
       have hms22_1 := NB162_163.out
       have hs23 : w17.cell? ⟨gb162, 5, none⟩ = some (.int .i64 0) := (blk_cell BK162.out 5).trans rfl
       have hfs23 := blk_frozen BK162.out 5
       have hns23_1 := NB163_162.out
       have hms23_1 := NB162_163.out
       have hs24 : w17.cell? ⟨gb162, 6, none⟩ = some (.int .i64 0) := (blk_cell BK162.out 6).trans rfl
       have hfs24 := blk_frozen BK162.out 6
       have hns24_1 := NB163_162.out
       have hms24_1 := NB162_163.out
       refine skip_ (w1 := ?_) (by rfl) rfl ?_ ?_
       rotate_left
       ·
        go_simp
        rfl
       clear hs18 hfs18 hns18_1 hms18_1 hs19 hfs19 hns19_1 hms19_1 hs20 hfs20 hns20_1 hms20_1 hs21 hfs21 hns21_1 hms21_1 hs22 hfs22 hns22_1 hms22_1 hs23 hfs23 hns23_1 hms23_1 hs24 hfs24 hns24_1 hms24_1
       have HBn := Aside0.mk (below_set (j := 6) (v := .int .i64 (rd_T31 l0 x5_1).f6) (below_set (j := 5) (v := .int .i64 (rd_T31 l0 x5_1).f5) (below_set (j := 4) (v := .string (rd_T31 l0 x5_1).f4) (below_set (j := 3) (v := .string (rd_T31 l0 x5_1).f3) (below_set (j := 2) (v := .int .u8 (rd_T31 l0 x5_1).f2) (below_set (j := 1) (v := .slice A160_1 (rd_T31 l0 x5_1).f1.length c160_1) (below_set (j := 0) (v := .int .u8 (rd_T31 l0 x5_1).f0) HB.out GE162.out) GE162.out) GE162.out) GE162.out) GE162.out) GE162.out) GE162.out)
       have BKme := Aside0.mk (blk_put (cs' := #[.int .u8 (rd_T31 l0 x5_1).f0, .slice A160_1 (rd_T31 l0 x5_1).f1.length c160_1, .int .u8 (rd_T31 l0 x5_1).f2, .string (rd_T31 l0 x5_1).f3, .string (rd_T31 l0 x5_1).f4, .int .i64 (rd_T31 l0 x5_1).f5, .int .i64 (rd_T31 l0 x5_1).f6]) (blk_put (cs' := #[.int .u8 (rd_T31 l0 x5_1).f0, .slice A160_1 (rd_T31 l0 x5_1).f1.length c160_1, .int .u8 (rd_T31 l0 x5_1).f2, .string (rd_T31 l0 x5_1).f3, .string (rd_T31 l0 x5_1).f4, .int .i64 (rd_T31 l0 x5_1).f5, .int .i64 0]) (blk_put (cs' := #[.int .u8 (rd_T31 l0 x5_1).f0, .slice A160_1 (rd_T31 l0 x5_1).f1.length c160_1, .int .u8 (rd_T31 l0 x5_1).f2, .string (rd_T31 l0 x5_1).f3, .string (rd_T31 l0 x5_1).f4, .int .i64 0, .int .i64 0]) (blk_put (cs' := #[.int .u8 (rd_T31 l0 x5_1).f0, .slice A160_1 (rd_T31 l0 x5_1).f1.length c160_1, .int .u8 (rd_T31 l0 x5_1).f2, .string (rd_T31 l0 x5_1).f3, .string (⟨#[]⟩ : ByteArray), .int .i64 0, .int .i64 0]) (blk_put (cs' := #[.int .u8 (rd_T31 l0 x5_1).f0, .slice A160_1 (rd_T31 l0 x5_1).f1.length c160_1, .int .u8 (rd_T31 l0 x5_1).f2, .string (⟨#[]⟩ : ByteArray), .string (⟨#[]⟩ : ByteArray), .int .i64 0, .int .i64 0]) (blk_put (cs' := #[.int .u8 (rd_T31 l0 x5_1).f0, .slice A160_1 (rd_T31 l0 x5_1).f1.length c160_1, .int .u8 0, .string (⟨#[]⟩ : ByteArray), .string (⟨#[]⟩ : ByteArray), .int .i64 0, .int .i64 0]) (blk_put (cs' := #[.int .u8 (rd_T31 l0 x5_1).f0, .slice none 0 0, .int .u8 0, .string (⟨#[]⟩ : ByteArray), .string (⟨#[]⟩ : ByteArray), .int .i64 0, .int .i64 0]) BK162.out 0 (.int .u8 (rd_T31 l0 x5_1).f0) rfl) 1 (.slice A160_1 (rd_T31 l0 x5_1).f1.length c160_1) rfl) 2 (.int .u8 (rd_T31 l0 x5_1).f2) rfl) 3 (.string (rd_T31 l0 x5_1).f3) rfl) 4 (.string (rd_T31 l0 x5_1).f4) rfl) 5 (.int .i64 (rd_T31 l0 x5_1).f5) rfl) 6 (.int .i64 (rd_T31 l0 x5_1).f6) rfl)
       have BKot := Aside0.mk (blk_far (p := ⟨gb162, 6, none⟩) (blk_far (p := ⟨gb162, 5, none⟩) (blk_far (p := ⟨gb162, 4, none⟩) (blk_far (p := ⟨gb162, 3, none⟩) (blk_far (p := ⟨gb162, 2, none⟩) (blk_far (p := ⟨gb162, 1, none⟩) (blk_far (p := ⟨gb162, 0, none⟩) BK163.out NB163_162.out (.int .u8 (rd_T31 l0 x5_1).f0)) NB163_162.out (.slice A160_1 (rd_T31 l0 x5_1).f1.length c160_1)) NB163_162.out (.int .u8 (rd_T31 l0 x5_1).f2)) NB163_162.out (.string (rd_T31 l0 x5_1).f3)) NB163_162.out (.string (rd_T31 l0 x5_1).f4)) NB163_162.out (.int .i64 (rd_T31 l0 x5_1).f5)) NB163_162.out (.int .i64 (rd_T31 l0 x5_1).f6))
       obtain ⟨wA, hwn⟩ : ∃ W, W = (((((((w17.setCell ⟨gb162, 0, none⟩ (.int .u8 (rd_T31 l0 x5_1).f0)).setCell ⟨gb162, 1, none⟩ (.slice A160_1 (rd_T31 l0 x5_1).f1.length c160_1)).setCell ⟨gb162, 2, none⟩ (.int .u8 (rd_T31 l0 x5_1).f2)).setCell ⟨gb162, 3, none⟩ (.string (rd_T31 l0 x5_1).f3)).setCell ⟨gb162, 4, none⟩ (.string (rd_T31 l0 x5_1).f4)).setCell ⟨gb162, 5, none⟩ (.int .i64 (rd_T31 l0 x5_1).f5)).setCell ⟨gb162, 6, none⟩ (.int .i64 (rd_T31 l0 x5_1).f6)) := ⟨_, rfl⟩
       rw [← hwn] at HBn BKme BKot ⊢
       clear hwn BK162 BK163 HB
       have BK162 := BKme
       have BK163 := BKot
       have HB := HBn
       clear BKme BKot HBn
       refine hK.out _ _ ⟨((HB.out.cell (World.block_lt_of_cell? w _ hw160_0)).trans hw160_0), ((HB.out.cell (World.block_lt_of_cell? w _ hw160_1)).trans hw160_1), ((HB.out.cell (World.block_lt_of_cell? w _ hw160_2)).trans hw160_2), ((HB.out.cell (World.block_lt_of_cell? w _ hw160_3)).trans hw160_3), ((HB.out.cell (World.block_lt_of_cell? w _ hw160_4)).trans hw160_4), ((HB.out.cell (World.block_lt_of_cell? w _ hw160_5)).trans hw160_5), ((HB.out.cell (World.block_lt_of_cell? w _ hw160_6)).trans hw160_6), ((HB.out.cell (World.block_lt_of_cell? w _ hw161_0)).trans hw161_0), ((HB.out.cell (World.block_lt_of_cell? w _ hw161_1)).trans hw161_1), ((HB.out.cell (World.block_lt_of_cell? w _ hw161_2)).trans hw161_2), ((HB.out.cell (World.block_lt_of_cell? w _ hw161_3)).trans hw161_3), ((HB.out.cell (World.block_lt_of_cell? w _ hw161_4)).trans hw161_4), ((HB.out.cell (World.block_lt_of_cell? w _ hw161_5)).trans hw161_5), ((HB.out.cell (World.block_lt_of_cell? w _ hw161_6)).trans hw161_6)⟩ (fun hHeld => ?_)
       clear hK K
       refine one_ (i := 11) (N := none) #[true, true, true, true, true, true, true, true, true, true, true, true] rfl rfl (one_of HT_.out (by kernel_rfl)) (by decide) (fun K hK => ?_)
       have hs25 : wA.cell? ⟨gb163, 0, none⟩ = some (.int .u8 0) := (blk_cell BK163.out 0).trans rfl
       have hfs25 := blk_frozen BK163.out 0
       have hns25_0 := NB162_163.out
       have hms25_0 := NB163_162.out
       have hs26 : wA.cell? ⟨gb163, 1, none⟩ = some (.slice none 0 0) := (blk_cell BK163.out 1).trans rfl
       have hfs26 := blk_frozen BK163.out 1
       have hns26_0 := NB162_163.out
       have hms26_0 := NB163_162.out
       have hs27 : wA.cell? ⟨gb163, 2, none⟩ = some (.int .u8 0) := (blk_cell BK163.out 2).trans rfl
       have hfs27 := blk_frozen BK163.out 2
       have hns27_0 := NB162_163.out
       have hms27_0 := NB163_162.out
       have hs28 : wA.cell? ⟨gb163, 3, none⟩ = some (.string (⟨#[]⟩ : ByteArray)) := (blk_cell BK163.out 3).trans rfl
       have hfs28 := blk_frozen BK163.out 3
       have hns28_0 := NB162_163.out
       have hms28_0 := NB163_162.out
       have hs29 : wA.cell? ⟨gb163, 4, none⟩ = some (.string (⟨#[]⟩ : ByteArray)) := (blk_cell BK163.out 4).trans rfl
       have hfs29 := blk_frozen BK163.out 4
       have hns29_0 := NB162_163.out
       have hms29_0 := NB163_162.out
       have hs30 : wA.cell? ⟨gb163, 5, none⟩ = some (.int .i64 0) := (blk_cell BK163.out 5).trans rfl
       have hfs30 := blk_frozen BK163.out 5
       have hns30_0 := NB162_163.out
       have hms30_0 := NB163_162.out
       have hs31 : wA.cell? ⟨gb163, 6, none⟩ = some (.int .i64 0) := (blk_cell BK163.out 6).trans rfl
       have hfs31 := blk_frozen BK163.out 6
       have hns31_0 := NB162_163.out
       have hms31_0 := NB163_162.out
       refine skip_ (w1 := ?_) (by rfl) rfl ?_ ?_
       rotate_left
       ·
        go_simp
        rfl
       clear hs25 hfs25 hns25_0 hms25_0 hs26 hfs26 hns26_0 hms26_0 hs27 hfs27 hns27_0 hms27_0 hs28 hfs28 hns28_0 hms28_0 hs29 hfs29 hns29_0 hms29_0 hs30 hfs30 hns30_0 hms30_0 hs31 hfs31 hns31_0 hms31_0
       have HBn := Aside0.mk (below_set (j := 6) (v := .int .i64 (rd_T31 l1 x5_1).f6) (below_set (j := 5) (v := .int .i64 (rd_T31 l1 x5_1).f5) (below_set (j := 4) (v := .string (rd_T31 l1 x5_1).f4) (below_set (j := 3) (v := .string (rd_T31 l1 x5_1).f3) (below_set (j := 2) (v := .int .u8 (rd_T31 l1 x5_1).f2) (below_set (j := 1) (v := .slice A161_1 (rd_T31 l1 x5_1).f1.length c161_1) (below_set (j := 0) (v := .int .u8 (rd_T31 l1 x5_1).f0) HB.out GE163.out) GE163.out) GE163.out) GE163.out) GE163.out) GE163.out) GE163.out)
       have BKme := Aside0.mk (blk_put (cs' := #[.int .u8 (rd_T31 l1 x5_1).f0, .slice A161_1 (rd_T31 l1 x5_1).f1.length c161_1, .int .u8 (rd_T31 l1 x5_1).f2, .string (rd_T31 l1 x5_1).f3, .string (rd_T31 l1 x5_1).f4, .int .i64 (rd_T31 l1 x5_1).f5, .int .i64 (rd_T31 l1 x5_1).f6]) (blk_put (cs' := #[.int .u8 (rd_T31 l1 x5_1).f0, .slice A161_1 (rd_T31 l1 x5_1).f1.length c161_1, .int .u8 (rd_T31 l1 x5_1).f2, .string (rd_T31 l1 x5_1).f3, .string (rd_T31 l1 x5_1).f4, .int .i64 (rd_T31 l1 x5_1).f5, .int .i64 0]) (blk_put (cs' := #[.int .u8 (rd_T31 l1 x5_1).f0, .slice A161_1 (rd_T31 l1 x5_1).f1.length c161_1, .int .u8 (rd_T31 l1 x5_1).f2, .string (rd_T31 l1 x5_1).f3, .string (rd_T31 l1 x5_1).f4, .int .i64 0, .int .i64 0]) (blk_put (cs' := #[.int .u8 (rd_T31 l1 x5_1).f0, .slice A161_1 (rd_T31 l1 x5_1).f1.length c161_1, .int .u8 (rd_T31 l1 x5_1).f2, .string (rd_T31 l1 x5_1).f3, .string (⟨#[]⟩ : ByteArray), .int .i64 0, .int .i64 0]) (blk_put (cs' := #[.int .u8 (rd_T31 l1 x5_1).f0, .slice A161_1 (rd_T31 l1 x5_1).f1.length c161_1, .int .u8 (rd_T31 l1 x5_1).f2, .string (⟨#[]⟩ : ByteArray), .string (⟨#[]⟩ : ByteArray), .int .i64 0, .int .i64 0]) (blk_put (cs' := #[.int .u8 (rd_T31 l1 x5_1).f0, .slice A161_1 (rd_T31 l1 x5_1).f1.length c161_1, .int .u8 0, .string (⟨#[]⟩ : ByteArray), .string (⟨#[]⟩ : ByteArray), .int .i64 0, .int .i64 0]) (blk_put (cs' := #[.int .u8 (rd_T31 l1 x5_1).f0, .slice none 0 0, .int .u8 0, .string (⟨#[]⟩ : ByteArray), .string (⟨#[]⟩ : ByteArray), .int .i64 0, .int .i64 0]) BK163.out 0 (.int .u8 (rd_T31 l1 x5_1).f0) rfl) 1 (.slice A161_1 (rd_T31 l1 x5_1).f1.length c161_1) rfl) 2 (.int .u8 (rd_T31 l1 x5_1).f2) rfl) 3 (.string (rd_T31 l1 x5_1).f3) rfl) 4 (.string (rd_T31 l1 x5_1).f4) rfl) 5 (.int .i64 (rd_T31 l1 x5_1).f5) rfl) 6 (.int .i64 (rd_T31 l1 x5_1).f6) rfl)
       have BKot := Aside0.mk (blk_far (p := ⟨gb163, 6, none⟩) (blk_far (p := ⟨gb163, 5, none⟩) (blk_far (p := ⟨gb163, 4, none⟩) (blk_far (p := ⟨gb163, 3, none⟩) (blk_far (p := ⟨gb163, 2, none⟩) (blk_far (p := ⟨gb163, 1, none⟩) (blk_far (p := ⟨gb163, 0, none⟩) BK162.out NB162_163.out (.int .u8 (rd_T31 l1 x5_1).f0)) NB162_163.out (.slice A161_1 (rd_T31 l1 x5_1).f1.length c161_1)) NB162_163.out (.int .u8 (rd_T31 l1 x5_1).f2)) NB162_163.out (.string (rd_T31 l1 x5_1).f3)) NB162_163.out (.string (rd_T31 l1 x5_1).f4)) NB162_163.out (.int .i64 (rd_T31 l1 x5_1).f5)) NB162_163.out (.int .i64 (rd_T31 l1 x5_1).f6))
       obtain ⟨wB, hwn⟩ : ∃ W, W = (((((((wA.setCell ⟨gb163, 0, none⟩ (.int .u8 (rd_T31 l1 x5_1).f0)).setCell ⟨gb163, 1, none⟩ (.slice A161_1 (rd_T31 l1 x5_1).f1.length c161_1)).setCell ⟨gb163, 2, none⟩ (.int .u8 (rd_T31 l1 x5_1).f2)).setCell ⟨gb163, 3, none⟩ (.string (rd_T31 l1 x5_1).f3)).setCell ⟨gb163, 4, none⟩ (.string (rd_T31 l1 x5_1).f4)).setCell ⟨gb163, 5, none⟩ (.int .i64 (rd_T31 l1 x5_1).f5)).setCell ⟨gb163, 6, none⟩ (.int .i64 (rd_T31 l1 x5_1).f6)) := ⟨_, rfl⟩
       rw [← hwn] at HBn BKme BKot ⊢
       clear hwn BK163 BK162 HB
       have BK163 := BKme
       have BK162 := BKot
       have HB := HBn
       clear BKme BKot HBn
       refine hK.out _ _ ⟨((HB.out.cell (World.block_lt_of_cell? w _ hw160_0)).trans hw160_0), ((HB.out.cell (World.block_lt_of_cell? w _ hw160_1)).trans hw160_1), ((HB.out.cell (World.block_lt_of_cell? w _ hw160_2)).trans hw160_2), ((HB.out.cell (World.block_lt_of_cell? w _ hw160_3)).trans hw160_3), ((HB.out.cell (World.block_lt_of_cell? w _ hw160_4)).trans hw160_4), ((HB.out.cell (World.block_lt_of_cell? w _ hw160_5)).trans hw160_5), ((HB.out.cell (World.block_lt_of_cell? w _ hw160_6)).trans hw160_6), ((HB.out.cell (World.block_lt_of_cell? w _ hw161_0)).trans hw161_0), ((HB.out.cell (World.block_lt_of_cell? w _ hw161_1)).trans hw161_1), ((HB.out.cell (World.block_lt_of_cell? w _ hw161_2)).trans hw161_2), ((HB.out.cell (World.block_lt_of_cell? w _ hw161_3)).trans hw161_3), ((HB.out.cell (World.block_lt_of_cell? w _ hw161_4)).trans hw161_4), ((HB.out.cell (World.block_lt_of_cell? w _ hw161_5)).trans hw161_5), ((HB.out.cell (World.block_lt_of_cell? w _ hw161_6)).trans hw161_6)⟩ (fun hHeld => ?_)
       clear hK K
       refine done_ (done_of HT_.out (by kernel_rfl)) ?_
       have hcz162_0 : wB.cell? ⟨gb162, 0, none⟩ = some (.int .u8 (rd_T31 l0 x5_1).f0) := (blk_cell BK162.out 0).trans rfl
       have hcz162_1 : wB.cell? ⟨gb162, 1, none⟩ = some (.slice A160_1 (rd_T31 l0 x5_1).f1.length c160_1) := (blk_cell BK162.out 1).trans rfl
       have hcz162_2 : wB.cell? ⟨gb162, 2, none⟩ = some (.int .u8 (rd_T31 l0 x5_1).f2) := (blk_cell BK162.out 2).trans rfl
       have hcz162_3 : wB.cell? ⟨gb162, 3, none⟩ = some (.string (rd_T31 l0 x5_1).f3) := (blk_cell BK162.out 3).trans rfl
       have hcz162_4 : wB.cell? ⟨gb162, 4, none⟩ = some (.string (rd_T31 l0 x5_1).f4) := (blk_cell BK162.out 4).trans rfl
       have hcz162_5 : wB.cell? ⟨gb162, 5, none⟩ = some (.int .i64 (rd_T31 l0 x5_1).f5) := (blk_cell BK162.out 5).trans rfl
       have hcz162_6 : wB.cell? ⟨gb162, 6, none⟩ = some (.int .i64 (rd_T31 l0 x5_1).f6) := (blk_cell BK162.out 6).trans rfl
       have hfz162_0 := blk_frozen BK162.out 0
       have hfz162_1 := blk_frozen BK162.out 1
       have hfz162_2 := blk_frozen BK162.out 2
       have hfz162_3 := blk_frozen BK162.out 3
       have hfz162_4 := blk_frozen BK162.out 4
       have hfz162_5 := blk_frozen BK162.out 5
       have hfz162_6 := blk_frozen BK162.out 6
       have hcz163_0 : wB.cell? ⟨gb163, 0, none⟩ = some (.int .u8 (rd_T31 l1 x5_1).f0) := (blk_cell BK163.out 0).trans rfl
       have hcz163_1 : wB.cell? ⟨gb163, 1, none⟩ = some (.slice A161_1 (rd_T31 l1 x5_1).f1.length c161_1) := (blk_cell BK163.out 1).trans rfl
       have hcz163_2 : wB.cell? ⟨gb163, 2, none⟩ = some (.int .u8 (rd_T31 l1 x5_1).f2) := (blk_cell BK163.out 2).trans rfl
       have hcz163_3 : wB.cell? ⟨gb163, 3, none⟩ = some (.string (rd_T31 l1 x5_1).f3) := (blk_cell BK163.out 3).trans rfl
       have hcz163_4 : wB.cell? ⟨gb163, 4, none⟩ = some (.string (rd_T31 l1 x5_1).f4) := (blk_cell BK163.out 4).trans rfl
       have hcz163_5 : wB.cell? ⟨gb163, 5, none⟩ = some (.int .i64 (rd_T31 l1 x5_1).f5) := (blk_cell BK163.out 5).trans rfl
       have hcz163_6 : wB.cell? ⟨gb163, 6, none⟩ = some (.int .i64 (rd_T31 l1 x5_1).f6) := (blk_cell BK163.out 6).trans rfl
       have hfz163_0 := blk_frozen BK163.out 0
       have hfz163_1 := blk_frozen BK163.out 1
       have hfz163_2 := blk_frozen BK163.out 2
       have hfz163_3 := blk_frozen BK163.out 3
       have hfz163_4 := blk_frozen BK163.out 4
       have hfz163_5 := blk_frozen BK163.out 5
       have hfz163_6 := blk_frozen BK163.out 6
       by_cases c7 : ((rd_T31 l0 x5_1).f0) = ((rd_T31 l1 x5_1).f0)
       ·
        rw [if_pos c7] at H
        have c7b0 : (((rd_T31 l0 x5_1).f0) == ((rd_T31 l1 x5_1).f0)) = true := beq_iff_eq.mpr c7
        have c7b1 : (((rd_T31 l0 x5_1).f0) != ((rd_T31 l1 x5_1).f0)) = false := bne_eq_false_iff_eq.mpr c7
        clear c7
        by_cases c8 : (strOfNums ((rd_T31 l0 x5_1).f1)).toList = (strOfNums ((rd_T31 l1 x5_1).f1)).toList
        ·
         rw [if_pos c8] at H
         have c8b0 : ((strOfNums ((rd_T31 l0 x5_1).f1)).toList == (strOfNums ((rd_T31 l1 x5_1).f1)).toList) = true := beq_iff_eq.mpr c8
         have c8b1 : ((strOfNums ((rd_T31 l0 x5_1).f1)).toList != (strOfNums ((rd_T31 l1 x5_1).f1)).toList) = false := bne_eq_false_iff_eq.mpr c8
         clear c8
         by_cases c9 : ((rd_T31 l0 x5_1).f2) = ((rd_T31 l1 x5_1).f2)
         ·
          rw [if_pos c9] at H
          have c9b0 : (((rd_T31 l0 x5_1).f2) == ((rd_T31 l1 x5_1).f2)) = true := beq_iff_eq.mpr c9
          have c9b1 : (((rd_T31 l0 x5_1).f2) != ((rd_T31 l1 x5_1).f2)) = false := bne_eq_false_iff_eq.mpr c9
          clear c9
          by_cases c10 : ((rd_T31 l0 x5_1).f3).toList = ((rd_T31 l1 x5_1).f3).toList
          ·
           rw [if_pos c10] at H
           have c10b0 : (((rd_T31 l0 x5_1).f3).toList == ((rd_T31 l1 x5_1).f3).toList) = true := beq_iff_eq.mpr c10
           have c10b1 : (((rd_T31 l0 x5_1).f3).toList != ((rd_T31 l1 x5_1).f3).toList) = false := bne_eq_false_iff_eq.mpr c10
           clear c10
           by_cases c11 : ((rd_T31 l0 x5_1).f4).toList = ((rd_T31 l1 x5_1).f4).toList
           ·
            rw [if_pos c11] at H
            have c11b0 : (((rd_T31 l0 x5_1).f4).toList == ((rd_T31 l1 x5_1).f4).toList) = true := beq_iff_eq.mpr c11
            have c11b1 : (((rd_T31 l0 x5_1).f4).toList != ((rd_T31 l1 x5_1).f4).toList) = false := bne_eq_false_iff_eq.mpr c11
            clear c11
            by_cases c12 : ((rd_T31 l0 x5_1).f5) = ((rd_T31 l1 x5_1).f5)
            ·
             rw [if_pos c12] at H
             have c12b0 : (((rd_T31 l0 x5_1).f5) == ((rd_T31 l1 x5_1).f5)) = true := beq_iff_eq.mpr c12
             have c12b1 : (((rd_T31 l0 x5_1).f5) != ((rd_T31 l1 x5_1).f5)) = false := bne_eq_false_iff_eq.mpr c12
             clear c12
             by_cases c13 : ((rd_T31 l0 x5_1).f6) = ((rd_T31 l1 x5_1).f6)
             ·
              rw [if_pos c13] at H
              have c13b0 : (((rd_T31 l0 x5_1).f6) == ((rd_T31 l1 x5_1).f6)) = true := beq_iff_eq.mpr c13
              have c13b1 : (((rd_T31 l0 x5_1).f6) != ((rd_T31 l1 x5_1).f6)) = false := bne_eq_false_iff_eq.mpr c13
              clear c13
              have H' := Aside0.mk H
              clear H
              have hcv35 := Kd.C_string (P := Tryd.prog) (A := A160_1) (c := c160_1) Tryd.underlying29 Tryd.underlying5 Tryd.underlying9 (Kd.C_below HR160_1.out HB.out)
              have hcv36 := fun n_ : Nat => Kd.C_string (P := Tryd.prog) (A := A160_1) (c := c160_1) Tryd.underlying29 Tryd.underlying5 Tryd.underlying9 (Kd.C_drewN (Kd.C_below HR160_1.out HB.out) n_)
              have hcv39 := Kd.C_string (P := Tryd.prog) (A := A161_1) (c := c161_1) Tryd.underlying29 Tryd.underlying5 Tryd.underlying9 (Kd.C_below HR161_1.out HB.out)
              have hcv40 := fun n_ : Nat => Kd.C_string (P := Tryd.prog) (A := A161_1) (c := c161_1) Tryd.underlying29 Tryd.underlying5 Tryd.underlying9 (Kd.C_drewN (Kd.C_below HR161_1.out HB.out) n_)
              try go_wp2
              go_roundg k1
              case measure => have := HK1.out; omega
              case rel => exact ⟨(wrap64 (x5_1 + 1)), (by first | rfl | (simp; done) | (simp [*]; done)), H', ⟨by have := HK1.out; omega⟩, ⟨by repeat (first | (with_reducible first | exact HB.out | apply below_alloc | apply pw_below_drewN | apply below_drew1 | refine below_set ?_ GE162.out | refine below_set ?_ GE163.out) | exact HB.out)⟩⟩
             ·
              rw [if_neg c13] at H
              have c13b0 : (((rd_T31 l0 x5_1).f6) == ((rd_T31 l1 x5_1).f6)) = false := beq_eq_false_iff_ne.mpr c13
              have c13b1 : (((rd_T31 l0 x5_1).f6) != ((rd_T31 l1 x5_1).f6)) = true := bne_iff_ne.mpr c13
              obtain rfl := Option.some.inj H
              have hcv64 := Kd.C_string (P := Tryd.prog) (A := A160_1) (c := c160_1) Tryd.underlying29 Tryd.underlying5 Tryd.underlying9 (Kd.C_below HR160_1.out HB.out)
              have hcv65 := fun n_ : Nat => Kd.C_string (P := Tryd.prog) (A := A160_1) (c := c160_1) Tryd.underlying29 Tryd.underlying5 Tryd.underlying9 (Kd.C_drewN (Kd.C_below HR160_1.out HB.out) n_)
              have hcv68 := Kd.C_string (P := Tryd.prog) (A := A161_1) (c := c161_1) Tryd.underlying29 Tryd.underlying5 Tryd.underlying9 (Kd.C_below HR161_1.out HB.out)
              have hcv69 := fun n_ : Nat => Kd.C_string (P := Tryd.prog) (A := A161_1) (c := c161_1) Tryd.underlying29 Tryd.underlying5 Tryd.underlying9 (Kd.C_drewN (Kd.C_below HR161_1.out HB.out) n_)
              try go_wp2
              go_ret
              exact ⟨by first | rfl | (simp [errW_none, errW_some] <;> rfl) | (simp [*, errW_none, errW_some] <;> rfl), by repeat (first | (with_reducible first | exact HB.out | apply below_alloc | apply pw_below_drewN | apply below_drew1 | refine below_set ?_ GE162.out | refine below_set ?_ GE163.out) | exact HB.out)⟩
            ·
             rw [if_neg c12] at H
             have c12b0 : (((rd_T31 l0 x5_1).f5) == ((rd_T31 l1 x5_1).f5)) = false := beq_eq_false_iff_ne.mpr c12
             have c12b1 : (((rd_T31 l0 x5_1).f5) != ((rd_T31 l1 x5_1).f5)) = true := bne_iff_ne.mpr c12
             obtain rfl := Option.some.inj H
             have hcv93 := Kd.C_string (P := Tryd.prog) (A := A160_1) (c := c160_1) Tryd.underlying29 Tryd.underlying5 Tryd.underlying9 (Kd.C_below HR160_1.out HB.out)
             have hcv94 := fun n_ : Nat => Kd.C_string (P := Tryd.prog) (A := A160_1) (c := c160_1) Tryd.underlying29 Tryd.underlying5 Tryd.underlying9 (Kd.C_drewN (Kd.C_below HR160_1.out HB.out) n_)
             have hcv97 := Kd.C_string (P := Tryd.prog) (A := A161_1) (c := c161_1) Tryd.underlying29 Tryd.underlying5 Tryd.underlying9 (Kd.C_below HR161_1.out HB.out)
             have hcv98 := fun n_ : Nat => Kd.C_string (P := Tryd.prog) (A := A161_1) (c := c161_1) Tryd.underlying29 Tryd.underlying5 Tryd.underlying9 (Kd.C_drewN (Kd.C_below HR161_1.out HB.out) n_)
             try go_wp2
             go_ret
             exact ⟨by first | rfl | (simp [errW_none, errW_some] <;> rfl) | (simp [*, errW_none, errW_some] <;> rfl), by repeat (first | (with_reducible first | exact HB.out | apply below_alloc | apply pw_below_drewN | apply below_drew1 | refine below_set ?_ GE162.out | refine below_set ?_ GE163.out) | exact HB.out)⟩
           ·
            rw [if_neg c11] at H
            have c11b0 : (((rd_T31 l0 x5_1).f4).toList == ((rd_T31 l1 x5_1).f4).toList) = false := beq_eq_false_iff_ne.mpr c11
            have c11b1 : (((rd_T31 l0 x5_1).f4).toList != ((rd_T31 l1 x5_1).f4).toList) = true := bne_iff_ne.mpr c11
            obtain rfl := Option.some.inj H
            have hcv122 := Kd.C_string (P := Tryd.prog) (A := A160_1) (c := c160_1) Tryd.underlying29 Tryd.underlying5 Tryd.underlying9 (Kd.C_below HR160_1.out HB.out)
            have hcv123 := fun n_ : Nat => Kd.C_string (P := Tryd.prog) (A := A160_1) (c := c160_1) Tryd.underlying29 Tryd.underlying5 Tryd.underlying9 (Kd.C_drewN (Kd.C_below HR160_1.out HB.out) n_)
            have hcv126 := Kd.C_string (P := Tryd.prog) (A := A161_1) (c := c161_1) Tryd.underlying29 Tryd.underlying5 Tryd.underlying9 (Kd.C_below HR161_1.out HB.out)
            have hcv127 := fun n_ : Nat => Kd.C_string (P := Tryd.prog) (A := A161_1) (c := c161_1) Tryd.underlying29 Tryd.underlying5 Tryd.underlying9 (Kd.C_drewN (Kd.C_below HR161_1.out HB.out) n_)
            try go_wp2
            go_ret
            exact ⟨by first | rfl | (simp [errW_none, errW_some] <;> rfl) | (simp [*, errW_none, errW_some] <;> rfl), by repeat (first | (with_reducible first | exact HB.out | apply below_alloc | apply pw_below_drewN | apply below_drew1 | refine below_set ?_ GE162.out | refine below_set ?_ GE163.out) | exact HB.out)⟩
          ·
           rw [if_neg c10] at H
           have c10b0 : (((rd_T31 l0 x5_1).f3).toList == ((rd_T31 l1 x5_1).f3).toList) = false := beq_eq_false_iff_ne.mpr c10
           have c10b1 : (((rd_T31 l0 x5_1).f3).toList != ((rd_T31 l1 x5_1).f3).toList) = true := bne_iff_ne.mpr c10
           obtain rfl := Option.some.inj H
           have hcv151 := Kd.C_string (P := Tryd.prog) (A := A160_1) (c := c160_1) Tryd.underlying29 Tryd.underlying5 Tryd.underlying9 (Kd.C_below HR160_1.out HB.out)
           have hcv152 := fun n_ : Nat => Kd.C_string (P := Tryd.prog) (A := A160_1) (c := c160_1) Tryd.underlying29 Tryd.underlying5 Tryd.underlying9 (Kd.C_drewN (Kd.C_below HR160_1.out HB.out) n_)
           have hcv155 := Kd.C_string (P := Tryd.prog) (A := A161_1) (c := c161_1) Tryd.underlying29 Tryd.underlying5 Tryd.underlying9 (Kd.C_below HR161_1.out HB.out)
           have hcv156 := fun n_ : Nat => Kd.C_string (P := Tryd.prog) (A := A161_1) (c := c161_1) Tryd.underlying29 Tryd.underlying5 Tryd.underlying9 (Kd.C_drewN (Kd.C_below HR161_1.out HB.out) n_)
           try go_wp2
           go_ret
           exact ⟨by first | rfl | (simp [errW_none, errW_some] <;> rfl) | (simp [*, errW_none, errW_some] <;> rfl), by repeat (first | (with_reducible first | exact HB.out | apply below_alloc | apply pw_below_drewN | apply below_drew1 | refine below_set ?_ GE162.out | refine below_set ?_ GE163.out) | exact HB.out)⟩
         ·
          rw [if_neg c9] at H
          have c9b0 : (((rd_T31 l0 x5_1).f2) == ((rd_T31 l1 x5_1).f2)) = false := beq_eq_false_iff_ne.mpr c9
          have c9b1 : (((rd_T31 l0 x5_1).f2) != ((rd_T31 l1 x5_1).f2)) = true := bne_iff_ne.mpr c9
          obtain rfl := Option.some.inj H
          have hcv180 := Kd.C_string (P := Tryd.prog) (A := A160_1) (c := c160_1) Tryd.underlying29 Tryd.underlying5 Tryd.underlying9 (Kd.C_below HR160_1.out HB.out)
          have hcv181 := fun n_ : Nat => Kd.C_string (P := Tryd.prog) (A := A160_1) (c := c160_1) Tryd.underlying29 Tryd.underlying5 Tryd.underlying9 (Kd.C_drewN (Kd.C_below HR160_1.out HB.out) n_)
          have hcv184 := Kd.C_string (P := Tryd.prog) (A := A161_1) (c := c161_1) Tryd.underlying29 Tryd.underlying5 Tryd.underlying9 (Kd.C_below HR161_1.out HB.out)
          have hcv185 := fun n_ : Nat => Kd.C_string (P := Tryd.prog) (A := A161_1) (c := c161_1) Tryd.underlying29 Tryd.underlying5 Tryd.underlying9 (Kd.C_drewN (Kd.C_below HR161_1.out HB.out) n_)
          try go_wp2
          go_ret
          exact ⟨by first | rfl | (simp [errW_none, errW_some] <;> rfl) | (simp [*, errW_none, errW_some] <;> rfl), by repeat (first | (with_reducible first | exact HB.out | apply below_alloc | apply pw_below_drewN | apply below_drew1 | refine below_set ?_ GE162.out | refine below_set ?_ GE163.out) | exact HB.out)⟩
        ·
         rw [if_neg c8] at H
         have c8b0 : ((strOfNums ((rd_T31 l0 x5_1).f1)).toList == (strOfNums ((rd_T31 l1 x5_1).f1)).toList) = false := beq_eq_false_iff_ne.mpr c8
         have c8b1 : ((strOfNums ((rd_T31 l0 x5_1).f1)).toList != (strOfNums ((rd_T31 l1 x5_1).f1)).toList) = true := bne_iff_ne.mpr c8
         obtain rfl := Option.some.inj H
         have hcv209 := Kd.C_string (P := Tryd.prog) (A := A160_1) (c := c160_1) Tryd.underlying29 Tryd.underlying5 Tryd.underlying9 (Kd.C_below HR160_1.out HB.out)
         have hcv210 := fun n_ : Nat => Kd.C_string (P := Tryd.prog) (A := A160_1) (c := c160_1) Tryd.underlying29 Tryd.underlying5 Tryd.underlying9 (Kd.C_drewN (Kd.C_below HR160_1.out HB.out) n_)
         have hcv213 := Kd.C_string (P := Tryd.prog) (A := A161_1) (c := c161_1) Tryd.underlying29 Tryd.underlying5 Tryd.underlying9 (Kd.C_below HR161_1.out HB.out)
         have hcv214 := fun n_ : Nat => Kd.C_string (P := Tryd.prog) (A := A161_1) (c := c161_1) Tryd.underlying29 Tryd.underlying5 Tryd.underlying9 (Kd.C_drewN (Kd.C_below HR161_1.out HB.out) n_)
         try go_wp2
         go_ret
         exact ⟨by first | rfl | (simp [errW_none, errW_some] <;> rfl) | (simp [*, errW_none, errW_some] <;> rfl), by repeat (first | (with_reducible first | exact HB.out | apply below_alloc | apply pw_below_drewN | apply below_drew1 | refine below_set ?_ GE162.out | refine below_set ?_ GE163.out) | exact HB.out)⟩
       ·
        rw [if_neg c7] at H
        have c7b0 : (((rd_T31 l0 x5_1).f0) == ((rd_T31 l1 x5_1).f0)) = false := beq_eq_false_iff_ne.mpr c7
        have c7b1 : (((rd_T31 l0 x5_1).f0) != ((rd_T31 l1 x5_1).f0)) = true := bne_iff_ne.mpr c7
        obtain rfl := Option.some.inj H
        try go_wp2
        go_ret
        exact ⟨by first | rfl | (simp [errW_none, errW_some] <;> rfl) | (simp [*, errW_none, errW_some] <;> rfl), by repeat (first | (with_reducible first | exact HB.out | apply below_alloc | apply pw_below_drewN | apply below_drew1 | refine below_set ?_ GE162.out | refine below_set ?_ GE163.out) | exact HB.out)⟩
      ·
       rw [if_neg c6] at H
       exact absurd H (by simp)
     ·
      rw [if_neg c5] at H
      exact absurd H (by simp)
    ·
     rw [if_neg c4] at H
     have c4b0 : decide (x5_1 < (l0.length : Int)) = false := decide_eq_false c4
     clear c4
     obtain rfl := Option.some.inj H
     go_wp2
     go_ret
     exact ⟨by first | rfl | (simp [errW_none, errW_some] <;> rfl) | (simp [*, errW_none, errW_some] <;> rfl), by repeat (first | (with_reducible first | exact HB.out | apply below_alloc | apply pw_below_drewN | apply below_drew1) | exact HB.out)⟩
 ·
  rw [if_neg c3] at H
  have c3b0 : ((l0.length : Int) == (l1.length : Int)) = false := beq_eq_false_iff_ne.mpr c3
  have c3b1 : ((l0.length : Int) != (l1.length : Int)) = true := bne_iff_ne.mpr c3
  have c3b2 : (l0.length == l1.length) = false := by first | simpa using c3 | (simp at c3 ⊢; omega)
  obtain rfl := Option.some.inj H
  go_enter Tryd.func11, Tryd.ntmps11
  go_wp2
  go_ret
  exact ⟨by first | rfl | (simp [errW_none, errW_some] <;> rfl) | (simp [*, errW_none, errW_some] <;> rfl), by repeat (first | (with_reducible first | exact HB.out | apply below_alloc | apply pw_below_drewN | apply below_drew1) | exact HB.out)⟩

end Go.Proofs.YtkjmbfabgkppaaaDoor.P
