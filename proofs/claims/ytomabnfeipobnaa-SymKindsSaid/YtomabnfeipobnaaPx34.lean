-- Written by pext.py, a program of this session, over the kit's print: a function's contract
import Derived.Test.YtomabnfeipobnaaPx0
import Derived.Test.YtomabnfeipobnaaPx8
import Derived.Test.YtomabnfeipobnaaPx11
namespace Go.Proofs.Ytomabnfeipobnaa.P
open Go.RowKit Go.Proofs.YtomabnfeipobnaaW.PrintWords Go.Proofs.YtomabnfeipobnaaW.PrintLast Go.Proofs.YtomabnfeipobnaaW.PrintMore
attribute [local go_sem] max2_int min2_int max_two min_two max_three min_three max_four min_four   -- for this text's walks alone
set_option linter.unusedVariables false
set_option linter.unusedSimpArgs false

/-! ### quoinlaw10_SymKinds: function 18 -/
mutual
def quoinlaw10_SymKinds.j0 : Nat → Bool → Bool → ByteArray → Int → Bool → Int → Int → Int → Option (Bool)
 | 0, _, _, _, _, _, _, _, _ => none
 | k + 1, x3, x4, x639000, x639001, x639002, x639003, x639004, x639005 => if x639003 ≥ 1 then (quoinlaw10_SymKinds.j1 k x3 x4 (decide (x639003 ≤ 16)) x639000 x639001 x639002 x639003 x639004 x639005) else (quoinlaw10_SymKinds.j1 k x3 x4 false x639000 x639001 x639002 x639003 x639004 x639005)
def quoinlaw10_SymKinds.j1 : Nat → Bool → Bool → Bool → ByteArray → Int → Bool → Int → Int → Int → Option (Bool)
 | 0, _, _, _, _, _, _, _, _, _ => none
 | k + 1, x3, x4, x21, x639000, x639001, x639002, x639003, x639004, x639005 => if x21 = true then (if x4 = true then (if x639004 ≥ 0 then (if x639004 ≤ 4096 then (if x639005 ≥ 0 then (if x3 = true then ((sym_Check.f k x639000 x639001 x639002 x639003 x639004 x639005 16).bind fun t640 => (if t640 = 0 then (some (decide (x639005 ≤ 4096))) else (some (!(decide (x639005 ≤ 4096)))))) else (none)) else (if x3 = true then ((sym_Check.f k x639000 x639001 x639002 x639003 x639004 x639005 16).bind fun t641 => (if t641 = 0 then (none) else (some true))) else (none))) else (if x3 = true then ((sym_Check.f k x639000 x639001 x639002 x639003 x639004 x639005 16).bind fun t642 => (if t642 = 0 then (none) else (some true))) else (none))) else (if x3 = true then ((sym_Check.f k x639000 x639001 x639002 x639003 x639004 x639005 16).bind fun t643 => (if t643 = 0 then (none) else (some true))) else (none))) else (if x3 = true then ((sym_Check.f k x639000 x639001 x639002 x639003 x639004 x639005 16).bind fun t644 => (if t644 = 0 then (none) else (some true))) else (none))) else (if x639003 = 0 then (if x4 = true then (if x639004 = 0 then (if x639005 = 0 then (if x3 = true then ((sym_Check.f k x639000 x639001 x639002 x639003 x639004 x639005 16).bind fun t645 => (if t645 = 0 then (some (decide (x639001 > 0))) else (some (!(decide (x639001 > 0)))))) else (none)) else (if x3 = true then ((sym_Check.f k x639000 x639001 x639002 x639003 x639004 x639005 16).bind fun t646 => (if t646 = 0 then (none) else (some true))) else (none))) else (if x3 = true then ((sym_Check.f k x639000 x639001 x639002 x639003 x639004 x639005 16).bind fun t647 => (if t647 = 0 then (none) else (some true))) else (none))) else (if x3 = true then ((sym_Check.f k x639000 x639001 x639002 x639003 x639004 x639005 16).bind fun t648 => (if t648 = 0 then (none) else (some true))) else (none))) else (if x639003 = (-1) then (if x4 = true then (if x639004 ≥ (-2147483648) then (if x639004 < 4294967296 then (if x3 = true then ((sym_Check.f k x639000 x639001 x639002 x639003 x639004 x639005 16).bind fun t649 => (if t649 = 0 then (some (x639005 == 0)) else (some (!(x639005 == 0))))) else (none)) else (if x3 = true then ((sym_Check.f k x639000 x639001 x639002 x639003 x639004 x639005 16).bind fun t650 => (if t650 = 0 then (none) else (some true))) else (none))) else (if x3 = true then ((sym_Check.f k x639000 x639001 x639002 x639003 x639004 x639005 16).bind fun t651 => (if t651 = 0 then (none) else (some true))) else (none))) else (if x3 = true then ((sym_Check.f k x639000 x639001 x639002 x639003 x639004 x639005 16).bind fun t652 => (if t652 = 0 then (none) else (some true))) else (none))) else (if x639003 = (-2) then (if x4 = true then (if x639004 = 1 then (if x639005 ≥ 1 then (if x639005 ≤ 4096 then (if x3 = true then ((sym_Check.f k x639000 x639001 x639002 x639003 x639004 x639005 16).bind fun t653 => (if t653 = 0 then (some (x639001 == 1)) else (some (!(x639001 == 1))))) else (none)) else (if x3 = true then ((sym_Check.f k x639000 x639001 x639002 x639003 x639004 x639005 16).bind fun t654 => (if t654 = 0 then (none) else (some true))) else (none))) else (if x3 = true then ((sym_Check.f k x639000 x639001 x639002 x639003 x639004 x639005 16).bind fun t655 => (if t655 = 0 then (none) else (some true))) else (none))) else (if x639004 = 2 then (if x639005 ≥ 1 then (if x639005 ≤ 4096 then (if x3 = true then ((sym_Check.f k x639000 x639001 x639002 x639003 x639004 x639005 16).bind fun t656 => (if t656 = 0 then (some (x639001 == 1)) else (some (!(x639001 == 1))))) else (none)) else (if x3 = true then ((sym_Check.f k x639000 x639001 x639002 x639003 x639004 x639005 16).bind fun t657 => (if t657 = 0 then (none) else (some true))) else (none))) else (if x3 = true then ((sym_Check.f k x639000 x639001 x639002 x639003 x639004 x639005 16).bind fun t658 => (if t658 = 0 then (none) else (some true))) else (none))) else (if x639004 = 4 then (if x639005 ≥ 1 then (if x639005 ≤ 4096 then (if x3 = true then ((sym_Check.f k x639000 x639001 x639002 x639003 x639004 x639005 16).bind fun t659 => (if t659 = 0 then (some (x639001 == 1)) else (some (!(x639001 == 1))))) else (none)) else (if x3 = true then ((sym_Check.f k x639000 x639001 x639002 x639003 x639004 x639005 16).bind fun t660 => (if t660 = 0 then (none) else (some true))) else (none))) else (if x3 = true then ((sym_Check.f k x639000 x639001 x639002 x639003 x639004 x639005 16).bind fun t661 => (if t661 = 0 then (none) else (some true))) else (none))) else (if x639004 = 8 then (if x639005 ≥ 1 then (if x639005 ≤ 4096 then (if x3 = true then ((sym_Check.f k x639000 x639001 x639002 x639003 x639004 x639005 16).bind fun t662 => (if t662 = 0 then (some (x639001 == 1)) else (some (!(x639001 == 1))))) else (none)) else (if x3 = true then ((sym_Check.f k x639000 x639001 x639002 x639003 x639004 x639005 16).bind fun t663 => (if t663 = 0 then (none) else (some true))) else (none))) else (if x3 = true then ((sym_Check.f k x639000 x639001 x639002 x639003 x639004 x639005 16).bind fun t664 => (if t664 = 0 then (none) else (some true))) else (none))) else (if x639004 = 16 then (if x639005 ≥ 1 then (if x639005 ≤ 4096 then (if x3 = true then ((sym_Check.f k x639000 x639001 x639002 x639003 x639004 x639005 16).bind fun t665 => (if t665 = 0 then (some (x639001 == 1)) else (some (!(x639001 == 1))))) else (none)) else (if x3 = true then ((sym_Check.f k x639000 x639001 x639002 x639003 x639004 x639005 16).bind fun t666 => (if t666 = 0 then (none) else (some true))) else (none))) else (if x3 = true then ((sym_Check.f k x639000 x639001 x639002 x639003 x639004 x639005 16).bind fun t667 => (if t667 = 0 then (none) else (some true))) else (none))) else (if x639004 = 32 then (if x639005 ≥ 1 then (if x639005 ≤ 4096 then (if x3 = true then ((sym_Check.f k x639000 x639001 x639002 x639003 x639004 x639005 16).bind fun t668 => (if t668 = 0 then (some (x639001 == 1)) else (some (!(x639001 == 1))))) else (none)) else (if x3 = true then ((sym_Check.f k x639000 x639001 x639002 x639003 x639004 x639005 16).bind fun t669 => (if t669 = 0 then (none) else (some true))) else (none))) else (if x3 = true then ((sym_Check.f k x639000 x639001 x639002 x639003 x639004 x639005 16).bind fun t670 => (if t670 = 0 then (none) else (some true))) else (none))) else (if x639004 = 64 then (if x639005 ≥ 1 then (if x639005 ≤ 4096 then (if x3 = true then ((sym_Check.f k x639000 x639001 x639002 x639003 x639004 x639005 16).bind fun t671 => (if t671 = 0 then (some (x639001 == 1)) else (some (!(x639001 == 1))))) else (none)) else (if x3 = true then ((sym_Check.f k x639000 x639001 x639002 x639003 x639004 x639005 16).bind fun t672 => (if t672 = 0 then (none) else (some true))) else (none))) else (if x3 = true then ((sym_Check.f k x639000 x639001 x639002 x639003 x639004 x639005 16).bind fun t673 => (if t673 = 0 then (none) else (some true))) else (none))) else (if x3 = true then ((sym_Check.f k x639000 x639001 x639002 x639003 x639004 x639005 16).bind fun t674 => (if t674 = 0 then (none) else (some true))) else (none))))))))) else (if x3 = true then ((sym_Check.f k x639000 x639001 x639002 x639003 x639004 x639005 16).bind fun t675 => (if t675 = 0 then (none) else (some true))) else (none))) else (if x3 = true then ((sym_Check.f k x639000 x639001 x639002 x639003 x639004 x639005 16).bind fun t676 => (if t676 = 0 then (none) else (some true))) else (none)))))
end
def quoinlaw10_SymKinds.f (k : Nat) (a0_0 : ByteArray) (a0_1 : Int) (a0_2 : Bool) (a0_3 : Int) (a0_4 : Int) (a0_5 : Int) : Option (Bool) := (quoinlaw10_alive.f k).bind fun t639 => (if a0_1 ≤ 2 then (if a0_2 = true then (quoinlaw10_SymKinds.j0 k t639 (decide (a0_1 > 0)) (⟨#[97]⟩ : ByteArray) a0_1 a0_2 a0_3 a0_4 a0_5) else (quoinlaw10_SymKinds.j0 k t639 true (⟨#[97]⟩ : ByteArray) a0_1 a0_2 a0_3 a0_4 a0_5)) else (quoinlaw10_SymKinds.j0 k t639 false (⟨#[97]⟩ : ByteArray) a0_1 a0_2 a0_3 a0_4 a0_5))
theorem quoinlaw10_SymKinds.mono_l : ∀ k, (∀ y0 y1 y2 y3 y4 y5 y6 y7, LeO (quoinlaw10_SymKinds.j0 k y0 y1 y2 y3 y4 y5 y6 y7) (quoinlaw10_SymKinds.j0 (k + 1) y0 y1 y2 y3 y4 y5 y6 y7)) ∧ (∀ y0 y1 y2 y3 y4 y5 y6 y7 y8, LeO (quoinlaw10_SymKinds.j1 k y0 y1 y2 y3 y4 y5 y6 y7 y8) (quoinlaw10_SymKinds.j1 (k + 1) y0 y1 y2 y3 y4 y5 y6 y7 y8))
 | 0 => ⟨fun _ _ _ _ _ _ _ _ r h => by simp [quoinlaw10_SymKinds.j0] at h, fun _ _ _ _ _ _ _ _ _ r h => by simp [quoinlaw10_SymKinds.j1] at h⟩
 | k + 1 => by
  obtain ⟨ih0, ih1⟩ := quoinlaw10_SymKinds.mono_l k
  refine ⟨?_, ?_⟩
  ·
   intro y0 y1 y2 y3 y4 y5 y6 y7
   unfold quoinlaw10_SymKinds.j0
   repeat' first
   | (with_reducible exact ih0 _ _ _ _ _ _ _ _)
   | (with_reducible exact ih1 _ _ _ _ _ _ _ _ _)
   | (with_reducible exact quoinlaw10_alive.mono _)
   | (with_reducible exact sym_Check.mono _ _ _ _ _ _ _ _)
   | (with_reducible exact LeO.refl _)
   | (with_reducible exact LeO.none _)
   | (with_reducible refine LeO.ite ?_ ?_)
   | (with_reducible refine LeO.bind ?_ (fun _ => ?_))
   | exact ih0 _ _ _ _ _ _ _ _
   | exact ih1 _ _ _ _ _ _ _ _ _
   | exact quoinlaw10_alive.mono _
   | exact sym_Check.mono _ _ _ _ _ _ _ _
   | exact LeO.none _
   | refine LeO.ite ?_ ?_
   | refine LeO.bind ?_ (fun _ => ?_)
  ·
   intro y0 y1 y2 y3 y4 y5 y6 y7 y8
   unfold quoinlaw10_SymKinds.j1
   repeat' first
   | (with_reducible exact ih0 _ _ _ _ _ _ _ _)
   | (with_reducible exact ih1 _ _ _ _ _ _ _ _ _)
   | (with_reducible exact quoinlaw10_alive.mono _)
   | (with_reducible exact sym_Check.mono _ _ _ _ _ _ _ _)
   | (with_reducible exact LeO.refl _)
   | (with_reducible exact LeO.none _)
   | (with_reducible refine LeO.ite ?_ ?_)
   | (with_reducible refine LeO.bind ?_ (fun _ => ?_))
   | exact ih0 _ _ _ _ _ _ _ _
   | exact ih1 _ _ _ _ _ _ _ _ _
   | exact quoinlaw10_alive.mono _
   | exact sym_Check.mono _ _ _ _ _ _ _ _
   | exact LeO.none _
   | refine LeO.ite ?_ ?_
   | refine LeO.bind ?_ (fun _ => ?_)
theorem quoinlaw10_SymKinds.mono : ∀ a0 a1 a2 a3 a4 a5 k, LeO (quoinlaw10_SymKinds.f k a0 a1 a2 a3 a4 a5) (quoinlaw10_SymKinds.f (k + 1) a0 a1 a2 a3 a4 a5) := by
 intro a0 a1 a2 a3 a4 a5 k
 obtain ⟨ih0, ih1⟩ := quoinlaw10_SymKinds.mono_l k
 unfold quoinlaw10_SymKinds.f
 repeat' first
   | (with_reducible exact ih0 _ _ _ _ _ _ _ _)
   | (with_reducible exact ih1 _ _ _ _ _ _ _ _ _)
   | (with_reducible exact quoinlaw10_alive.mono _)
   | (with_reducible exact sym_Check.mono _ _ _ _ _ _ _ _)
   | (with_reducible exact LeO.refl _)
   | (with_reducible exact LeO.none _)
   | (with_reducible refine LeO.ite ?_ ?_)
   | (with_reducible refine LeO.bind ?_ (fun _ => ?_))
   | exact ih0 _ _ _ _ _ _ _ _
   | exact ih1 _ _ _ _ _ _ _ _ _
   | exact quoinlaw10_alive.mono _
   | exact sym_Check.mono _ _ _ _ _ _ _ _
   | exact LeO.none _
   | refine LeO.ite ?_ ?_
   | refine LeO.bind ?_ (fun _ => ?_)
set_option maxHeartbeats 8000000 in
set_option maxRecDepth 100000 in
theorem quoinlaw10_SymKinds.calls (k : Nat) (a0_0 : ByteArray) (a0_1 : Int) (a0_2 : Bool) (a0_3 : Int) (a0_4 : Int) (a0_5 : Int) (r : Bool) (w : World) (h : quoinlaw10_SymKinds.f k a0_0 a0_1 a0_2 a0_3 a0_4 a0_5 = some r) :
  Calls Try.prog 18 #[.agg #[.string a0_0, .int .u8 a0_1, .bool a0_2, .int .i64 a0_3, .int .i64 a0_4, .int .i64 a0_5]] w fun e w' => e = .returned (.bool r) ∧ Below w.heap.size w w' := by
 have hu64 := Try.underlying64
 have HB := Aside0.mk (Below.refl w.heap.size w)
 have H : ((quoinlaw10_alive.f k).bind fun t639 => (if a0_1 ≤ 2 then (if a0_2 = true then (quoinlaw10_SymKinds.j0 k t639 (decide (a0_1 > 0)) (⟨#[97]⟩ : ByteArray) a0_1 a0_2 a0_3 a0_4 a0_5) else (quoinlaw10_SymKinds.j0 k t639 true (⟨#[97]⟩ : ByteArray) a0_1 a0_2 a0_3 a0_4 a0_5)) else (quoinlaw10_SymKinds.j0 k t639 false (⟨#[97]⟩ : ByteArray) a0_1 a0_2 a0_3 a0_4 a0_5))) = some r := h
 clear h
 replace H := Option.bind_eq_some_iff.mp H
 obtain ⟨t639, A20, H⟩ := H
 replace H : (if a0_1 ≤ 2 then (if a0_2 = true then (quoinlaw10_SymKinds.j0 k t639 (decide (a0_1 > 0)) (⟨#[97]⟩ : ByteArray) a0_1 a0_2 a0_3 a0_4 a0_5) else (quoinlaw10_SymKinds.j0 k t639 true (⟨#[97]⟩ : ByteArray) a0_1 a0_2 a0_3 a0_4 a0_5)) else (quoinlaw10_SymKinds.j0 k t639 false (⟨#[97]⟩ : ByteArray) a0_1 a0_2 a0_3 a0_4 a0_5)) = some r := H
 have A2 := Aside0.mk A20
 clear A20
 have HC3 := Aside0.mk H
 clear H
 go_enter Try.func18, Try.ntmps18
 go_upto_region 3 with (first | ((with_reducible refine gate_dst (N := 1) rfl ?_); refine box_event ?hg (N := 1) ?hd (cs := #[.string a0_0, .int .u8 a0_1, .bool a0_2, .int .i64 a0_3, .int .i64 a0_4, .int .i64 a0_5]) (t := 64) ?hr ?_; (case hd => rfl); (case hg => rfl); (case hr => first | (go_simp; done) | (go_simp; rfl)); intro gb638 hg w4 hbox hb; have n0_ := Aside0.mk (below_step (by repeat (first | (with_reducible first | exact HB.out | apply below_alloc | apply pw_below_drewN | apply below_drew1) | exact HB.out)) hb); have n1_ := Aside0.mk (hbox); have n2_ := Aside0.mk ((by rw [hg]; exact (below_size (by repeat (first | (with_reducible first | exact HB.out | apply below_alloc | apply pw_below_drewN | apply below_drew1) | exact HB.out))) : w.heap.size ≤ gb638)); have n3_ := Aside0.mk ((by rw [hg]; exact (below_size (by repeat (first | (with_reducible first | exact HB.out | apply below_alloc | apply pw_below_drewN | apply below_drew1) | exact HB.out))) : w.heap.size ≤ gb638)); clear HB; have HB := n0_; have BK638 := n1_; have GW638 := n2_; have GE638 := n3_; clear n0_ n1_ n2_ n3_; clear hb hbox hg) | ((with_reducible refine gate_callee (f := 49) rfl ?_); refine goesL_ (some 6) rfl rfl Try.func49 (by kernel_rfl) rfl #[] rfl (by (try simp only [List.map_toArray, List.map_cons, List.map_nil]); first | done | rfl | (simp only [List.length_drop, List.length_take]; rfl)) ?_; (with_reducible refine (quoinlaw10_alive.calls k  t639 _ A2.out).mono ?_); rintro e w5 ⟨rfl, hb⟩; refine ⟨_, rfl, ?_⟩; have n0_ := Aside0.mk (blk_below (g := gb638) (o := .cells #[.string a0_0, .int .u8 a0_1, .bool a0_2, .int .i64 a0_3, .int .i64 a0_4, .int .i64 a0_5] 64 (0, 0)) (by (with_reducible repeat (first | refine blk_drewN ?_ _ | refine blk_drew ?_ | refine blk_alloc ?_ _)); exact BK638.out) hb); have n1_ := Aside0.mk (below_step (by repeat (first | (with_reducible first | exact HB.out | apply below_alloc | apply pw_below_drewN | apply below_drew1 | refine below_set ?_ GE638.out) | exact HB.out)) hb); clear BK638; clear HB; have BK638 := n0_; have HB := n1_; clear n0_ n1_; (try clear hb); (try clear hb2); (try clear hk); (try clear hi); have hcz6_0 : w5.cell? ⟨gb638, 0, none⟩ = some (.string a0_0) := (blk_cell BK638.out 0).trans rfl; have hcz6_1 : w5.cell? ⟨gb638, 1, none⟩ = some (.int .u8 a0_1) := (blk_cell BK638.out 1).trans rfl; have hcz6_2 : w5.cell? ⟨gb638, 2, none⟩ = some (.bool a0_2) := (blk_cell BK638.out 2).trans rfl; have hcz6_3 : w5.cell? ⟨gb638, 3, none⟩ = some (.int .i64 a0_3) := (blk_cell BK638.out 3).trans rfl; have hcz6_4 : w5.cell? ⟨gb638, 4, none⟩ = some (.int .i64 a0_4) := (blk_cell BK638.out 4).trans rfl; have hcz6_5 : w5.cell? ⟨gb638, 5, none⟩ = some (.int .i64 a0_5) := (blk_cell BK638.out 5).trans rfl; have hfz6_0 := blk_frozen BK638.out 0; have hfz6_1 := blk_frozen BK638.out 1; have hfz6_2 := blk_frozen BK638.out 2; have hfz6_3 := blk_frozen BK638.out 3; have hfz6_4 := blk_frozen BK638.out 4; have hfz6_5 := blk_frozen BK638.out 5))
 (try simp only [Act.put, List.setIfInBounds_toArray, List.set_cons_zero, List.set_cons_succ])
 go_cut [4] (fun v4 wc => ∃ (kq : Nat) (x4_2 : Bool), v4 = .bool x4_2 ∧ Aside0 (quoinlaw10_SymKinds.j0 kq t639 x4_2 (⟨#[97]⟩ : ByteArray) a0_1 a0_2 a0_3 a0_4 a0_5 = some r) ∧ Aside0 (kq ≤ k) ∧ Aside0 (wc.heap[gb638]? = some (.cells #[.string (⟨#[97]⟩ : ByteArray), .int .u8 a0_1, .bool a0_2, .int .i64 a0_3, .int .i64 a0_4, .int .i64 a0_5] 64 (0, 0))) ∧ Aside0 (Below w.heap.size w wc))
 case first =>
  have H := HC3.out
  clear HC3
  by_cases c7 : a0_1 ≤ 2
  ·
   rw [if_pos c7] at H
   have c7b0 : decide (a0_1 ≤ 2) = true := decide_eq_true c7
   clear c7
   (first | rw [c7b0] | (simp only [i64_w, i32_w]; rw [c7b0]) | skip)
   by_cases c8 : a0_2 = true
   ·
    subst c8
    have H1 : (quoinlaw10_SymKinds.j0 k t639 (decide (a0_1 > 0)) (⟨#[97]⟩ : ByteArray) a0_1 true a0_3 a0_4 a0_5) = some r := by rw [if_pos rfl] at H; exact H
    clear H
    have H := H1
    clear H1
    have H' := Aside0.mk H
    clear H
    have hcz9_0 : w5.cell? ⟨gb638, 0, none⟩ = some (.string a0_0) := (blk_cell BK638.out 0).trans rfl
    have hcz9_1 : w5.cell? ⟨gb638, 1, none⟩ = some (.int .u8 a0_1) := (blk_cell BK638.out 1).trans rfl
    have hcz9_2 : w5.cell? ⟨gb638, 2, none⟩ = some (.bool true) := (blk_cell BK638.out 2).trans rfl
    have hcz9_3 : w5.cell? ⟨gb638, 3, none⟩ = some (.int .i64 a0_3) := (blk_cell BK638.out 3).trans rfl
    have hcz9_4 : w5.cell? ⟨gb638, 4, none⟩ = some (.int .i64 a0_4) := (blk_cell BK638.out 4).trans rfl
    have hcz9_5 : w5.cell? ⟨gb638, 5, none⟩ = some (.int .i64 a0_5) := (blk_cell BK638.out 5).trans rfl
    have hfz9_0 := blk_frozen BK638.out 0
    have hfz9_1 := blk_frozen BK638.out 1
    have hfz9_2 := blk_frozen BK638.out 2
    have hfz9_3 := blk_frozen BK638.out 3
    have hfz9_4 := blk_frozen BK638.out 4
    have hfz9_5 := blk_frozen BK638.out 5
    go_wp2
    go_meet
    case rel => exact ⟨_, (decide (a0_1 > 0)), (by first | rfl | (simp; done) | (simp [*]; done)), H', ⟨by first | omega | exact Nat.le_refl _⟩, ⟨by (with_reducible repeat (first | refine blk_drewN ?_ _ | refine blk_drew ?_ | refine blk_alloc ?_ _)); refine blk_put (cs := #[.string a0_0, .int .u8 a0_1, .bool true, .int .i64 a0_3, .int .i64 a0_4, .int .i64 a0_5]) ?_ 0 _ rfl; (with_reducible repeat (first | refine blk_drewN ?_ _ | refine blk_drew ?_ | refine blk_alloc ?_ _)); exact BK638.out⟩, ⟨by repeat (first | (with_reducible first | exact HB.out | apply below_alloc | apply pw_below_drewN | apply below_drew1 | refine below_set ?_ GE638.out) | exact HB.out)⟩⟩
   ·
    replace c8 := Bool.eq_false_iff.mpr c8
    subst c8
    have H1 : (quoinlaw10_SymKinds.j0 k t639 true (⟨#[97]⟩ : ByteArray) a0_1 false a0_3 a0_4 a0_5) = some r := by rw [if_neg (show ¬ (false = true) by decide)] at H; exact H
    clear H
    have H := H1
    clear H1
    have H' := Aside0.mk H
    clear H
    have hcz10_0 : w5.cell? ⟨gb638, 0, none⟩ = some (.string a0_0) := (blk_cell BK638.out 0).trans rfl
    have hcz10_1 : w5.cell? ⟨gb638, 1, none⟩ = some (.int .u8 a0_1) := (blk_cell BK638.out 1).trans rfl
    have hcz10_2 : w5.cell? ⟨gb638, 2, none⟩ = some (.bool false) := (blk_cell BK638.out 2).trans rfl
    have hcz10_3 : w5.cell? ⟨gb638, 3, none⟩ = some (.int .i64 a0_3) := (blk_cell BK638.out 3).trans rfl
    have hcz10_4 : w5.cell? ⟨gb638, 4, none⟩ = some (.int .i64 a0_4) := (blk_cell BK638.out 4).trans rfl
    have hcz10_5 : w5.cell? ⟨gb638, 5, none⟩ = some (.int .i64 a0_5) := (blk_cell BK638.out 5).trans rfl
    have hfz10_0 := blk_frozen BK638.out 0
    have hfz10_1 := blk_frozen BK638.out 1
    have hfz10_2 := blk_frozen BK638.out 2
    have hfz10_3 := blk_frozen BK638.out 3
    have hfz10_4 := blk_frozen BK638.out 4
    have hfz10_5 := blk_frozen BK638.out 5
    go_wp2
    go_meet
    case rel => exact ⟨_, (true), (by first | rfl | (simp; done) | (simp [*]; done)), H', ⟨by first | omega | exact Nat.le_refl _⟩, ⟨by (with_reducible repeat (first | refine blk_drewN ?_ _ | refine blk_drew ?_ | refine blk_alloc ?_ _)); refine blk_put (cs := #[.string a0_0, .int .u8 a0_1, .bool false, .int .i64 a0_3, .int .i64 a0_4, .int .i64 a0_5]) ?_ 0 _ rfl; (with_reducible repeat (first | refine blk_drewN ?_ _ | refine blk_drew ?_ | refine blk_alloc ?_ _)); exact BK638.out⟩, ⟨by repeat (first | (with_reducible first | exact HB.out | apply below_alloc | apply pw_below_drewN | apply below_drew1 | refine below_set ?_ GE638.out) | exact HB.out)⟩⟩
  ·
   rw [if_neg c7] at H
   have c7b0 : decide (a0_1 ≤ 2) = false := decide_eq_false c7
   clear c7
   (first | rw [c7b0] | (simp only [i64_w, i32_w]; rw [c7b0]) | skip)
   have H' := Aside0.mk H
   clear H
   have hcz11_0 : w5.cell? ⟨gb638, 0, none⟩ = some (.string a0_0) := (blk_cell BK638.out 0).trans rfl
   have hcz11_1 : w5.cell? ⟨gb638, 1, none⟩ = some (.int .u8 a0_1) := (blk_cell BK638.out 1).trans rfl
   have hcz11_2 : w5.cell? ⟨gb638, 2, none⟩ = some (.bool a0_2) := (blk_cell BK638.out 2).trans rfl
   have hcz11_3 : w5.cell? ⟨gb638, 3, none⟩ = some (.int .i64 a0_3) := (blk_cell BK638.out 3).trans rfl
   have hcz11_4 : w5.cell? ⟨gb638, 4, none⟩ = some (.int .i64 a0_4) := (blk_cell BK638.out 4).trans rfl
   have hcz11_5 : w5.cell? ⟨gb638, 5, none⟩ = some (.int .i64 a0_5) := (blk_cell BK638.out 5).trans rfl
   have hfz11_0 := blk_frozen BK638.out 0
   have hfz11_1 := blk_frozen BK638.out 1
   have hfz11_2 := blk_frozen BK638.out 2
   have hfz11_3 := blk_frozen BK638.out 3
   have hfz11_4 := blk_frozen BK638.out 4
   have hfz11_5 := blk_frozen BK638.out 5
   go_wp2
   go_meet
   case rel => exact ⟨_, (false), (by first | rfl | (simp; done) | (simp [*]; done)), H', ⟨by first | omega | exact Nat.le_refl _⟩, ⟨by (with_reducible repeat (first | refine blk_drewN ?_ _ | refine blk_drew ?_ | refine blk_alloc ?_ _)); refine blk_put (cs := #[.string a0_0, .int .u8 a0_1, .bool a0_2, .int .i64 a0_3, .int .i64 a0_4, .int .i64 a0_5]) ?_ 0 _ rfl; (with_reducible repeat (first | refine blk_drewN ?_ _ | refine blk_drew ?_ | refine blk_alloc ?_ _)); exact BK638.out⟩, ⟨by repeat (first | (with_reducible first | exact HB.out | apply below_alloc | apply pw_below_drewN | apply below_drew1 | refine below_set ?_ GE638.out) | exact HB.out)⟩⟩
 case rest =>
  clear HC3
  try clear c1
  try clear p2
  try clear c4
  try clear c7
  try clear c7b0
  try clear c8
  try clear hcz10_0
  try clear hcz10_1
  try clear hcz10_2
  try clear hcz10_3
  try clear hcz10_4
  try clear hcz10_5
  try clear hcz11_0
  try clear hcz11_1
  try clear hcz11_2
  try clear hcz11_3
  try clear hcz11_4
  try clear hcz11_5
  try clear hcz6_0
  try clear hcz6_1
  try clear hcz6_2
  try clear hcz6_3
  try clear hcz6_4
  try clear hcz6_5
  try clear hcz9_0
  try clear hcz9_1
  try clear hcz9_2
  try clear hcz9_3
  try clear hcz9_4
  try clear hcz9_5
  try clear hfz10_0
  try clear hfz10_1
  try clear hfz10_2
  try clear hfz10_3
  try clear hfz10_4
  try clear hfz10_5
  try clear hfz11_0
  try clear hfz11_1
  try clear hfz11_2
  try clear hfz11_3
  try clear hfz11_4
  try clear hfz11_5
  try clear hfz6_0
  try clear hfz6_1
  try clear hfz6_2
  try clear hfz6_3
  try clear hfz6_4
  try clear hfz6_5
  try clear hfz9_0
  try clear hfz9_1
  try clear hfz9_2
  try clear hfz9_3
  try clear hfz9_4
  try clear hfz9_5
  obtain ⟨kq, x4_2, rfl, HA, HJ2, BK638, HB⟩ := hcut
  cases kq with
  | zero => exact absurd HA.out (by simp [quoinlaw10_SymKinds.j0])
  | succ kj2 =>
   have H := HA.out
   clear HA
   simp only [quoinlaw10_SymKinds.j0] at H
   have HC12 := Aside0.mk H
   clear H
   go_upto_region 5 with (fail)
   go_cut [21] (fun v21 wc => ∃ (kq : Nat) (x21_11 : Bool), v21 = .bool x21_11 ∧ Aside0 (quoinlaw10_SymKinds.j1 kq t639 x4_2 x21_11 (⟨#[97]⟩ : ByteArray) a0_1 a0_2 a0_3 a0_4 a0_5 = some r) ∧ Aside0 (kq ≤ kj2) ∧ Aside0 (wc.heap[gb638]? = some (.cells #[.string (⟨#[97]⟩ : ByteArray), .int .u8 a0_1, .bool a0_2, .int .i64 a0_3, .int .i64 a0_4, .int .i64 a0_5] 64 (0, 0))) ∧ Aside0 (Below w.heap.size w wc))
   case first =>
    have H := HC12.out
    clear HC12
    by_cases c13 : a0_3 ≥ 1
    ·
     rw [if_pos c13] at H
     have c13b0 : decide (1 ≤ a0_3) = true := decide_eq_true c13
     clear c13
     (first | rw [c13b0] | (simp only [i64_w, i32_w]; rw [c13b0]) | skip)
     have H' := Aside0.mk H
     clear H
     have hcz14_0 : wc.cell? ⟨gb638, 0, none⟩ = some (.string (⟨#[97]⟩ : ByteArray)) := (blk_cell BK638.out 0).trans rfl
     have hcz14_1 : wc.cell? ⟨gb638, 1, none⟩ = some (.int .u8 a0_1) := (blk_cell BK638.out 1).trans rfl
     have hcz14_2 : wc.cell? ⟨gb638, 2, none⟩ = some (.bool a0_2) := (blk_cell BK638.out 2).trans rfl
     have hcz14_3 : wc.cell? ⟨gb638, 3, none⟩ = some (.int .i64 a0_3) := (blk_cell BK638.out 3).trans rfl
     have hcz14_4 : wc.cell? ⟨gb638, 4, none⟩ = some (.int .i64 a0_4) := (blk_cell BK638.out 4).trans rfl
     have hcz14_5 : wc.cell? ⟨gb638, 5, none⟩ = some (.int .i64 a0_5) := (blk_cell BK638.out 5).trans rfl
     have hfz14_0 := blk_frozen BK638.out 0
     have hfz14_1 := blk_frozen BK638.out 1
     have hfz14_2 := blk_frozen BK638.out 2
     have hfz14_3 := blk_frozen BK638.out 3
     have hfz14_4 := blk_frozen BK638.out 4
     have hfz14_5 := blk_frozen BK638.out 5
     go_wp2
     go_meet
     case rel => exact ⟨_, (decide (a0_3 ≤ 16)), (by first | rfl | (simp; done) | (simp [*]; done)), H', ⟨by have := HJ2.out; first | omega | exact Nat.le_refl _⟩, ⟨by (with_reducible repeat (first | refine blk_drewN ?_ _ | refine blk_drew ?_ | refine blk_alloc ?_ _)); exact BK638.out⟩, ⟨by repeat (first | (with_reducible first | exact HB.out | apply below_alloc | apply pw_below_drewN | apply below_drew1 | refine below_set ?_ GE638.out) | exact HB.out)⟩⟩
    ·
     rw [if_neg c13] at H
     have c13b0 : decide (1 ≤ a0_3) = false := decide_eq_false c13
     clear c13
     (first | rw [c13b0] | (simp only [i64_w, i32_w]; rw [c13b0]) | skip)
     have H' := Aside0.mk H
     clear H
     have hcz15_0 : wc.cell? ⟨gb638, 0, none⟩ = some (.string (⟨#[97]⟩ : ByteArray)) := (blk_cell BK638.out 0).trans rfl
     have hcz15_1 : wc.cell? ⟨gb638, 1, none⟩ = some (.int .u8 a0_1) := (blk_cell BK638.out 1).trans rfl
     have hcz15_2 : wc.cell? ⟨gb638, 2, none⟩ = some (.bool a0_2) := (blk_cell BK638.out 2).trans rfl
     have hcz15_3 : wc.cell? ⟨gb638, 3, none⟩ = some (.int .i64 a0_3) := (blk_cell BK638.out 3).trans rfl
     have hcz15_4 : wc.cell? ⟨gb638, 4, none⟩ = some (.int .i64 a0_4) := (blk_cell BK638.out 4).trans rfl
     have hcz15_5 : wc.cell? ⟨gb638, 5, none⟩ = some (.int .i64 a0_5) := (blk_cell BK638.out 5).trans rfl
     have hfz15_0 := blk_frozen BK638.out 0
     have hfz15_1 := blk_frozen BK638.out 1
     have hfz15_2 := blk_frozen BK638.out 2
     have hfz15_3 := blk_frozen BK638.out 3
     have hfz15_4 := blk_frozen BK638.out 4
     have hfz15_5 := blk_frozen BK638.out 5
     go_wp2
     go_meet
     case rel => exact ⟨_, (false), (by first | rfl | (simp; done) | (simp [*]; done)), H', ⟨by have := HJ2.out; first | omega | exact Nat.le_refl _⟩, ⟨by (with_reducible repeat (first | refine blk_drewN ?_ _ | refine blk_drew ?_ | refine blk_alloc ?_ _)); exact BK638.out⟩, ⟨by repeat (first | (with_reducible first | exact HB.out | apply below_alloc | apply pw_below_drewN | apply below_drew1 | refine below_set ?_ GE638.out) | exact HB.out)⟩⟩
   case rest =>
    clear HC12
    try clear c1
    try clear p2
    try clear c4
    try clear c7
    try clear c7b0
    try clear c8
    try clear c13
    try clear c13b0
    try clear hcz10_0
    try clear hcz10_1
    try clear hcz10_2
    try clear hcz10_3
    try clear hcz10_4
    try clear hcz10_5
    try clear hcz11_0
    try clear hcz11_1
    try clear hcz11_2
    try clear hcz11_3
    try clear hcz11_4
    try clear hcz11_5
    try clear hcz14_0
    try clear hcz14_1
    try clear hcz14_2
    try clear hcz14_3
    try clear hcz14_4
    try clear hcz14_5
    try clear hcz15_0
    try clear hcz15_1
    try clear hcz15_2
    try clear hcz15_3
    try clear hcz15_4
    try clear hcz15_5
    try clear hcz6_0
    try clear hcz6_1
    try clear hcz6_2
    try clear hcz6_3
    try clear hcz6_4
    try clear hcz6_5
    try clear hcz9_0
    try clear hcz9_1
    try clear hcz9_2
    try clear hcz9_3
    try clear hcz9_4
    try clear hcz9_5
    try clear hfz10_0
    try clear hfz10_1
    try clear hfz10_2
    try clear hfz10_3
    try clear hfz10_4
    try clear hfz10_5
    try clear hfz11_0
    try clear hfz11_1
    try clear hfz11_2
    try clear hfz11_3
    try clear hfz11_4
    try clear hfz11_5
    try clear hfz14_0
    try clear hfz14_1
    try clear hfz14_2
    try clear hfz14_3
    try clear hfz14_4
    try clear hfz14_5
    try clear hfz15_0
    try clear hfz15_1
    try clear hfz15_2
    try clear hfz15_3
    try clear hfz15_4
    try clear hfz15_5
    try clear hfz6_0
    try clear hfz6_1
    try clear hfz6_2
    try clear hfz6_3
    try clear hfz6_4
    try clear hfz6_5
    try clear hfz9_0
    try clear hfz9_1
    try clear hfz9_2
    try clear hfz9_3
    try clear hfz9_4
    try clear hfz9_5
    try clear p2
    obtain ⟨kq, x21_11, rfl, HA, HJ11, BK638, HB⟩ := hcut
    cases kq with
    | zero => exact absurd HA.out (by simp [quoinlaw10_SymKinds.j1])
    | succ kj11 =>
     have H := HA.out
     clear HA
     simp only [quoinlaw10_SymKinds.j1] at H
     by_cases c16 : x21_11 = true
     ·
      subst c16
      have H1 : (if x4_2 = true then (if a0_4 ≥ 0 then (if a0_4 ≤ 4096 then (if a0_5 ≥ 0 then (if t639 = true then ((sym_Check.f kj11 (⟨#[97]⟩ : ByteArray) a0_1 a0_2 a0_3 a0_4 a0_5 16).bind fun t640 => (if t640 = 0 then (some (decide (a0_5 ≤ 4096))) else (some (!(decide (a0_5 ≤ 4096)))))) else (none)) else (if t639 = true then ((sym_Check.f kj11 (⟨#[97]⟩ : ByteArray) a0_1 a0_2 a0_3 a0_4 a0_5 16).bind fun t641 => (if t641 = 0 then (none) else (some true))) else (none))) else (if t639 = true then ((sym_Check.f kj11 (⟨#[97]⟩ : ByteArray) a0_1 a0_2 a0_3 a0_4 a0_5 16).bind fun t642 => (if t642 = 0 then (none) else (some true))) else (none))) else (if t639 = true then ((sym_Check.f kj11 (⟨#[97]⟩ : ByteArray) a0_1 a0_2 a0_3 a0_4 a0_5 16).bind fun t643 => (if t643 = 0 then (none) else (some true))) else (none))) else (if t639 = true then ((sym_Check.f kj11 (⟨#[97]⟩ : ByteArray) a0_1 a0_2 a0_3 a0_4 a0_5 16).bind fun t644 => (if t644 = 0 then (none) else (some true))) else (none))) = some r := by rw [if_pos rfl] at H; exact H
      clear H
      have H := H1
      clear H1
      by_cases c17 : x4_2 = true
      ·
       subst c17
       have H1 : (if a0_4 ≥ 0 then (if a0_4 ≤ 4096 then (if a0_5 ≥ 0 then (if t639 = true then ((sym_Check.f kj11 (⟨#[97]⟩ : ByteArray) a0_1 a0_2 a0_3 a0_4 a0_5 16).bind fun t640 => (if t640 = 0 then (some (decide (a0_5 ≤ 4096))) else (some (!(decide (a0_5 ≤ 4096)))))) else (none)) else (if t639 = true then ((sym_Check.f kj11 (⟨#[97]⟩ : ByteArray) a0_1 a0_2 a0_3 a0_4 a0_5 16).bind fun t641 => (if t641 = 0 then (none) else (some true))) else (none))) else (if t639 = true then ((sym_Check.f kj11 (⟨#[97]⟩ : ByteArray) a0_1 a0_2 a0_3 a0_4 a0_5 16).bind fun t642 => (if t642 = 0 then (none) else (some true))) else (none))) else (if t639 = true then ((sym_Check.f kj11 (⟨#[97]⟩ : ByteArray) a0_1 a0_2 a0_3 a0_4 a0_5 16).bind fun t643 => (if t643 = 0 then (none) else (some true))) else (none))) = some r := by rw [if_pos rfl] at H; exact H
       clear H
       have H := H1
       clear H1
       by_cases c18 : a0_4 ≥ 0
       ·
        rw [if_pos c18] at H
        have c18b0 : decide (0 ≤ a0_4) = true := decide_eq_true c18
        clear c18
        by_cases c19 : a0_4 ≤ 4096
        ·
         rw [if_pos c19] at H
         have c19b0 : decide (a0_4 ≤ 4096) = true := decide_eq_true c19
         clear c19
         by_cases c20 : a0_5 ≥ 0
         ·
          rw [if_pos c20] at H
          have c20b0 : decide (0 ≤ a0_5) = true := decide_eq_true c20
          clear c20
          by_cases c21 : t639 = true
          ·
           subst c21
           have H1 : ((sym_Check.f kj11 (⟨#[97]⟩ : ByteArray) a0_1 a0_2 a0_3 a0_4 a0_5 16).bind fun t640 => (if t640 = 0 then (some (decide (a0_5 ≤ 4096))) else (some (!(decide (a0_5 ≤ 4096)))))) = some r := by rw [if_pos rfl] at H; exact H
           clear H
           have H := H1
           clear H1
           replace H := Option.bind_eq_some_iff.mp H
           obtain ⟨t640, A220, H⟩ := H
           replace H : (if t640 = 0 then (some (decide (a0_5 ≤ 4096))) else (some (!(decide (a0_5 ≤ 4096))))) = some r := H
           have A22 := Aside0.mk A220
           clear A220
           by_cases c23 : t640 = 0
           ·
            rw [if_pos c23] at H
            have c23b0 : (t640 == 0) = true := beq_iff_eq.mpr c23
            have c23b1 : (t640 != 0) = false := bne_eq_false_iff_eq.mpr c23
            clear c23
            obtain rfl := Option.some.inj H
            have hcz24_0 : wc.cell? ⟨gb638, 0, none⟩ = some (.string (⟨#[97]⟩ : ByteArray)) := (blk_cell BK638.out 0).trans rfl
            have hcz24_1 : wc.cell? ⟨gb638, 1, none⟩ = some (.int .u8 a0_1) := (blk_cell BK638.out 1).trans rfl
            have hcz24_2 : wc.cell? ⟨gb638, 2, none⟩ = some (.bool a0_2) := (blk_cell BK638.out 2).trans rfl
            have hcz24_3 : wc.cell? ⟨gb638, 3, none⟩ = some (.int .i64 a0_3) := (blk_cell BK638.out 3).trans rfl
            have hcz24_4 : wc.cell? ⟨gb638, 4, none⟩ = some (.int .i64 a0_4) := (blk_cell BK638.out 4).trans rfl
            have hcz24_5 : wc.cell? ⟨gb638, 5, none⟩ = some (.int .i64 a0_5) := (blk_cell BK638.out 5).trans rfl
            have hfz24_0 := blk_frozen BK638.out 0
            have hfz24_1 := blk_frozen BK638.out 1
            have hfz24_2 := blk_frozen BK638.out 2
            have hfz24_3 := blk_frozen BK638.out 3
            have hfz24_4 := blk_frozen BK638.out 4
            have hfz24_5 := blk_frozen BK638.out 5
            go_wp2_with (first | (go_at_call 50; (with_reducible refine (sym_Check.calls kj11 (⟨#[97]⟩ : ByteArray) a0_1 a0_2 a0_3 a0_4 a0_5 16 t640 _ A22.out).mono ?_); rintro e w25 ⟨rfl, hb⟩; have n0_ := Aside0.mk (blk_below (g := gb638) (o := .cells #[.string (⟨#[97]⟩ : ByteArray), .int .u8 a0_1, .bool a0_2, .int .i64 a0_3, .int .i64 a0_4, .int .i64 a0_5] 64 (0, 0)) (by (with_reducible repeat (first | refine blk_drewN ?_ _ | refine blk_drew ?_ | refine blk_alloc ?_ _)); exact BK638.out) hb); have n1_ := Aside0.mk (below_step (by repeat (first | (with_reducible first | exact HB.out | apply below_alloc | apply pw_below_drewN | apply below_drew1 | refine below_set ?_ GE638.out) | exact HB.out)) hb); clear BK638; clear HB; have BK638 := n0_; have HB := n1_; clear n0_ n1_; (try clear hb); (try clear hb2); (try clear hk); (try clear hi)))
            go_ret
            exact ⟨by first | rfl | (simp [errW_none, errW_some] <;> rfl) | (simp [*, errW_none, errW_some] <;> rfl), by repeat (first | (with_reducible first | exact HB.out | apply below_alloc | apply pw_below_drewN | apply below_drew1 | refine below_set ?_ GE638.out) | exact HB.out)⟩
           ·
            rw [if_neg c23] at H
            have c23b0 : (t640 == 0) = false := beq_eq_false_iff_ne.mpr c23
            have c23b1 : (t640 != 0) = true := bne_iff_ne.mpr c23
            obtain rfl := Option.some.inj H
            have hcz26_0 : wc.cell? ⟨gb638, 0, none⟩ = some (.string (⟨#[97]⟩ : ByteArray)) := (blk_cell BK638.out 0).trans rfl
            have hcz26_1 : wc.cell? ⟨gb638, 1, none⟩ = some (.int .u8 a0_1) := (blk_cell BK638.out 1).trans rfl
            have hcz26_2 : wc.cell? ⟨gb638, 2, none⟩ = some (.bool a0_2) := (blk_cell BK638.out 2).trans rfl
            have hcz26_3 : wc.cell? ⟨gb638, 3, none⟩ = some (.int .i64 a0_3) := (blk_cell BK638.out 3).trans rfl
            have hcz26_4 : wc.cell? ⟨gb638, 4, none⟩ = some (.int .i64 a0_4) := (blk_cell BK638.out 4).trans rfl
            have hcz26_5 : wc.cell? ⟨gb638, 5, none⟩ = some (.int .i64 a0_5) := (blk_cell BK638.out 5).trans rfl
            have hfz26_0 := blk_frozen BK638.out 0
            have hfz26_1 := blk_frozen BK638.out 1
            have hfz26_2 := blk_frozen BK638.out 2
            have hfz26_3 := blk_frozen BK638.out 3
            have hfz26_4 := blk_frozen BK638.out 4
            have hfz26_5 := blk_frozen BK638.out 5
            go_wp2_with (first | (go_at_call 50; (with_reducible refine (sym_Check.calls kj11 (⟨#[97]⟩ : ByteArray) a0_1 a0_2 a0_3 a0_4 a0_5 16 t640 _ A22.out).mono ?_); rintro e w27 ⟨rfl, hb⟩; have n0_ := Aside0.mk (blk_below (g := gb638) (o := .cells #[.string (⟨#[97]⟩ : ByteArray), .int .u8 a0_1, .bool a0_2, .int .i64 a0_3, .int .i64 a0_4, .int .i64 a0_5] 64 (0, 0)) (by (with_reducible repeat (first | refine blk_drewN ?_ _ | refine blk_drew ?_ | refine blk_alloc ?_ _)); exact BK638.out) hb); have n1_ := Aside0.mk (below_step (by repeat (first | (with_reducible first | exact HB.out | apply below_alloc | apply pw_below_drewN | apply below_drew1 | refine below_set ?_ GE638.out) | exact HB.out)) hb); clear BK638; clear HB; have BK638 := n0_; have HB := n1_; clear n0_ n1_; (try clear hb); (try clear hb2); (try clear hk); (try clear hi)))
            go_ret
            exact ⟨by first | rfl | (simp [errW_none, errW_some] <;> rfl) | (simp [*, errW_none, errW_some] <;> rfl), by repeat (first | (with_reducible first | exact HB.out | apply below_alloc | apply pw_below_drewN | apply below_drew1 | refine below_set ?_ GE638.out) | exact HB.out)⟩
          ·
           replace c21 := Bool.eq_false_iff.mpr c21
           subst c21
           have H1 : (none) = some r := by rw [if_neg (show ¬ (false = true) by decide)] at H; exact H
           clear H
           have H := H1
           clear H1
           exact absurd H (by simp)
         ·
          rw [if_neg c20] at H
          have c20b0 : decide (0 ≤ a0_5) = false := decide_eq_false c20
          clear c20
          by_cases c28 : t639 = true
          ·
           subst c28
           have H1 : ((sym_Check.f kj11 (⟨#[97]⟩ : ByteArray) a0_1 a0_2 a0_3 a0_4 a0_5 16).bind fun t641 => (if t641 = 0 then (none) else (some true))) = some r := by rw [if_pos rfl] at H; exact H
           clear H
           have H := H1
           clear H1
           replace H := Option.bind_eq_some_iff.mp H
           obtain ⟨t641, A290, H⟩ := H
           replace H : (if t641 = 0 then (none) else (some true)) = some r := H
           have A29 := Aside0.mk A290
           clear A290
           by_cases c30 : t641 = 0
           ·
            rw [if_pos c30] at H
            exact absurd H (by simp)
           ·
            rw [if_neg c30] at H
            have c30b0 : (t641 == 0) = false := beq_eq_false_iff_ne.mpr c30
            have c30b1 : (t641 != 0) = true := bne_iff_ne.mpr c30
            obtain rfl := Option.some.inj H
            have hcz31_0 : wc.cell? ⟨gb638, 0, none⟩ = some (.string (⟨#[97]⟩ : ByteArray)) := (blk_cell BK638.out 0).trans rfl
            have hcz31_1 : wc.cell? ⟨gb638, 1, none⟩ = some (.int .u8 a0_1) := (blk_cell BK638.out 1).trans rfl
            have hcz31_2 : wc.cell? ⟨gb638, 2, none⟩ = some (.bool a0_2) := (blk_cell BK638.out 2).trans rfl
            have hcz31_3 : wc.cell? ⟨gb638, 3, none⟩ = some (.int .i64 a0_3) := (blk_cell BK638.out 3).trans rfl
            have hcz31_4 : wc.cell? ⟨gb638, 4, none⟩ = some (.int .i64 a0_4) := (blk_cell BK638.out 4).trans rfl
            have hcz31_5 : wc.cell? ⟨gb638, 5, none⟩ = some (.int .i64 a0_5) := (blk_cell BK638.out 5).trans rfl
            have hfz31_0 := blk_frozen BK638.out 0
            have hfz31_1 := blk_frozen BK638.out 1
            have hfz31_2 := blk_frozen BK638.out 2
            have hfz31_3 := blk_frozen BK638.out 3
            have hfz31_4 := blk_frozen BK638.out 4
            have hfz31_5 := blk_frozen BK638.out 5
            go_wp2_with (first | (go_at_call 50; (with_reducible refine (sym_Check.calls kj11 (⟨#[97]⟩ : ByteArray) a0_1 a0_2 a0_3 a0_4 a0_5 16 t641 _ A29.out).mono ?_); rintro e w32 ⟨rfl, hb⟩; have n0_ := Aside0.mk (blk_below (g := gb638) (o := .cells #[.string (⟨#[97]⟩ : ByteArray), .int .u8 a0_1, .bool a0_2, .int .i64 a0_3, .int .i64 a0_4, .int .i64 a0_5] 64 (0, 0)) (by (with_reducible repeat (first | refine blk_drewN ?_ _ | refine blk_drew ?_ | refine blk_alloc ?_ _)); exact BK638.out) hb); have n1_ := Aside0.mk (below_step (by repeat (first | (with_reducible first | exact HB.out | apply below_alloc | apply pw_below_drewN | apply below_drew1 | refine below_set ?_ GE638.out) | exact HB.out)) hb); clear BK638; clear HB; have BK638 := n0_; have HB := n1_; clear n0_ n1_; (try clear hb); (try clear hb2); (try clear hk); (try clear hi)))
            go_ret
            exact ⟨by first | rfl | (simp [errW_none, errW_some] <;> rfl) | (simp [*, errW_none, errW_some] <;> rfl), by repeat (first | (with_reducible first | exact HB.out | apply below_alloc | apply pw_below_drewN | apply below_drew1 | refine below_set ?_ GE638.out) | exact HB.out)⟩
          ·
           replace c28 := Bool.eq_false_iff.mpr c28
           subst c28
           have H1 : (none) = some r := by rw [if_neg (show ¬ (false = true) by decide)] at H; exact H
           clear H
           have H := H1
           clear H1
           exact absurd H (by simp)
        ·
         rw [if_neg c19] at H
         have c19b0 : decide (a0_4 ≤ 4096) = false := decide_eq_false c19
         clear c19
         by_cases c33 : t639 = true
         ·
          subst c33
          have H1 : ((sym_Check.f kj11 (⟨#[97]⟩ : ByteArray) a0_1 a0_2 a0_3 a0_4 a0_5 16).bind fun t642 => (if t642 = 0 then (none) else (some true))) = some r := by rw [if_pos rfl] at H; exact H
          clear H
          have H := H1
          clear H1
          replace H := Option.bind_eq_some_iff.mp H
          obtain ⟨t642, A340, H⟩ := H
          replace H : (if t642 = 0 then (none) else (some true)) = some r := H
          have A34 := Aside0.mk A340
          clear A340
          by_cases c35 : t642 = 0
          ·
           rw [if_pos c35] at H
           exact absurd H (by simp)
          ·
           rw [if_neg c35] at H
           have c35b0 : (t642 == 0) = false := beq_eq_false_iff_ne.mpr c35
           have c35b1 : (t642 != 0) = true := bne_iff_ne.mpr c35
           obtain rfl := Option.some.inj H
           have hcz36_0 : wc.cell? ⟨gb638, 0, none⟩ = some (.string (⟨#[97]⟩ : ByteArray)) := (blk_cell BK638.out 0).trans rfl
           have hcz36_1 : wc.cell? ⟨gb638, 1, none⟩ = some (.int .u8 a0_1) := (blk_cell BK638.out 1).trans rfl
           have hcz36_2 : wc.cell? ⟨gb638, 2, none⟩ = some (.bool a0_2) := (blk_cell BK638.out 2).trans rfl
           have hcz36_3 : wc.cell? ⟨gb638, 3, none⟩ = some (.int .i64 a0_3) := (blk_cell BK638.out 3).trans rfl
           have hcz36_4 : wc.cell? ⟨gb638, 4, none⟩ = some (.int .i64 a0_4) := (blk_cell BK638.out 4).trans rfl
           have hcz36_5 : wc.cell? ⟨gb638, 5, none⟩ = some (.int .i64 a0_5) := (blk_cell BK638.out 5).trans rfl
           have hfz36_0 := blk_frozen BK638.out 0
           have hfz36_1 := blk_frozen BK638.out 1
           have hfz36_2 := blk_frozen BK638.out 2
           have hfz36_3 := blk_frozen BK638.out 3
           have hfz36_4 := blk_frozen BK638.out 4
           have hfz36_5 := blk_frozen BK638.out 5
           go_wp2_with (first | (go_at_call 50; (with_reducible refine (sym_Check.calls kj11 (⟨#[97]⟩ : ByteArray) a0_1 a0_2 a0_3 a0_4 a0_5 16 t642 _ A34.out).mono ?_); rintro e w37 ⟨rfl, hb⟩; have n0_ := Aside0.mk (blk_below (g := gb638) (o := .cells #[.string (⟨#[97]⟩ : ByteArray), .int .u8 a0_1, .bool a0_2, .int .i64 a0_3, .int .i64 a0_4, .int .i64 a0_5] 64 (0, 0)) (by (with_reducible repeat (first | refine blk_drewN ?_ _ | refine blk_drew ?_ | refine blk_alloc ?_ _)); exact BK638.out) hb); have n1_ := Aside0.mk (below_step (by repeat (first | (with_reducible first | exact HB.out | apply below_alloc | apply pw_below_drewN | apply below_drew1 | refine below_set ?_ GE638.out) | exact HB.out)) hb); clear BK638; clear HB; have BK638 := n0_; have HB := n1_; clear n0_ n1_; (try clear hb); (try clear hb2); (try clear hk); (try clear hi)))
           go_ret
           exact ⟨by first | rfl | (simp [errW_none, errW_some] <;> rfl) | (simp [*, errW_none, errW_some] <;> rfl), by repeat (first | (with_reducible first | exact HB.out | apply below_alloc | apply pw_below_drewN | apply below_drew1 | refine below_set ?_ GE638.out) | exact HB.out)⟩
         ·
          replace c33 := Bool.eq_false_iff.mpr c33
          subst c33
          have H1 : (none) = some r := by rw [if_neg (show ¬ (false = true) by decide)] at H; exact H
          clear H
          have H := H1
          clear H1
          exact absurd H (by simp)
       ·
        rw [if_neg c18] at H
        have c18b0 : decide (0 ≤ a0_4) = false := decide_eq_false c18
        clear c18
        by_cases c38 : t639 = true
        ·
         subst c38
         have H1 : ((sym_Check.f kj11 (⟨#[97]⟩ : ByteArray) a0_1 a0_2 a0_3 a0_4 a0_5 16).bind fun t643 => (if t643 = 0 then (none) else (some true))) = some r := by rw [if_pos rfl] at H; exact H
         clear H
         have H := H1
         clear H1
         replace H := Option.bind_eq_some_iff.mp H
         obtain ⟨t643, A390, H⟩ := H
         replace H : (if t643 = 0 then (none) else (some true)) = some r := H
         have A39 := Aside0.mk A390
         clear A390
         by_cases c40 : t643 = 0
         ·
          rw [if_pos c40] at H
          exact absurd H (by simp)
         ·
          rw [if_neg c40] at H
          have c40b0 : (t643 == 0) = false := beq_eq_false_iff_ne.mpr c40
          have c40b1 : (t643 != 0) = true := bne_iff_ne.mpr c40
          obtain rfl := Option.some.inj H
          have hcz41_0 : wc.cell? ⟨gb638, 0, none⟩ = some (.string (⟨#[97]⟩ : ByteArray)) := (blk_cell BK638.out 0).trans rfl
          have hcz41_1 : wc.cell? ⟨gb638, 1, none⟩ = some (.int .u8 a0_1) := (blk_cell BK638.out 1).trans rfl
          have hcz41_2 : wc.cell? ⟨gb638, 2, none⟩ = some (.bool a0_2) := (blk_cell BK638.out 2).trans rfl
          have hcz41_3 : wc.cell? ⟨gb638, 3, none⟩ = some (.int .i64 a0_3) := (blk_cell BK638.out 3).trans rfl
          have hcz41_4 : wc.cell? ⟨gb638, 4, none⟩ = some (.int .i64 a0_4) := (blk_cell BK638.out 4).trans rfl
          have hcz41_5 : wc.cell? ⟨gb638, 5, none⟩ = some (.int .i64 a0_5) := (blk_cell BK638.out 5).trans rfl
          have hfz41_0 := blk_frozen BK638.out 0
          have hfz41_1 := blk_frozen BK638.out 1
          have hfz41_2 := blk_frozen BK638.out 2
          have hfz41_3 := blk_frozen BK638.out 3
          have hfz41_4 := blk_frozen BK638.out 4
          have hfz41_5 := blk_frozen BK638.out 5
          go_wp2_with (first | (go_at_call 50; (with_reducible refine (sym_Check.calls kj11 (⟨#[97]⟩ : ByteArray) a0_1 a0_2 a0_3 a0_4 a0_5 16 t643 _ A39.out).mono ?_); rintro e w42 ⟨rfl, hb⟩; have n0_ := Aside0.mk (blk_below (g := gb638) (o := .cells #[.string (⟨#[97]⟩ : ByteArray), .int .u8 a0_1, .bool a0_2, .int .i64 a0_3, .int .i64 a0_4, .int .i64 a0_5] 64 (0, 0)) (by (with_reducible repeat (first | refine blk_drewN ?_ _ | refine blk_drew ?_ | refine blk_alloc ?_ _)); exact BK638.out) hb); have n1_ := Aside0.mk (below_step (by repeat (first | (with_reducible first | exact HB.out | apply below_alloc | apply pw_below_drewN | apply below_drew1 | refine below_set ?_ GE638.out) | exact HB.out)) hb); clear BK638; clear HB; have BK638 := n0_; have HB := n1_; clear n0_ n1_; (try clear hb); (try clear hb2); (try clear hk); (try clear hi)))
          go_ret
          exact ⟨by first | rfl | (simp [errW_none, errW_some] <;> rfl) | (simp [*, errW_none, errW_some] <;> rfl), by repeat (first | (with_reducible first | exact HB.out | apply below_alloc | apply pw_below_drewN | apply below_drew1 | refine below_set ?_ GE638.out) | exact HB.out)⟩
        ·
         replace c38 := Bool.eq_false_iff.mpr c38
         subst c38
         have H1 : (none) = some r := by rw [if_neg (show ¬ (false = true) by decide)] at H; exact H
         clear H
         have H := H1
         clear H1
         exact absurd H (by simp)
      ·
       replace c17 := Bool.eq_false_iff.mpr c17
       subst c17
       have H1 : (if t639 = true then ((sym_Check.f kj11 (⟨#[97]⟩ : ByteArray) a0_1 a0_2 a0_3 a0_4 a0_5 16).bind fun t644 => (if t644 = 0 then (none) else (some true))) else (none)) = some r := by rw [if_neg (show ¬ (false = true) by decide)] at H; exact H
       clear H
       have H := H1
       clear H1
       by_cases c43 : t639 = true
       ·
        subst c43
        have H1 : ((sym_Check.f kj11 (⟨#[97]⟩ : ByteArray) a0_1 a0_2 a0_3 a0_4 a0_5 16).bind fun t644 => (if t644 = 0 then (none) else (some true))) = some r := by rw [if_pos rfl] at H; exact H
        clear H
        have H := H1
        clear H1
        replace H := Option.bind_eq_some_iff.mp H
        obtain ⟨t644, A440, H⟩ := H
        replace H : (if t644 = 0 then (none) else (some true)) = some r := H
        have A44 := Aside0.mk A440
        clear A440
        by_cases c45 : t644 = 0
        ·
         rw [if_pos c45] at H
         exact absurd H (by simp)
        ·
         rw [if_neg c45] at H
         have c45b0 : (t644 == 0) = false := beq_eq_false_iff_ne.mpr c45
         have c45b1 : (t644 != 0) = true := bne_iff_ne.mpr c45
         obtain rfl := Option.some.inj H
         have hcz46_0 : wc.cell? ⟨gb638, 0, none⟩ = some (.string (⟨#[97]⟩ : ByteArray)) := (blk_cell BK638.out 0).trans rfl
         have hcz46_1 : wc.cell? ⟨gb638, 1, none⟩ = some (.int .u8 a0_1) := (blk_cell BK638.out 1).trans rfl
         have hcz46_2 : wc.cell? ⟨gb638, 2, none⟩ = some (.bool a0_2) := (blk_cell BK638.out 2).trans rfl
         have hcz46_3 : wc.cell? ⟨gb638, 3, none⟩ = some (.int .i64 a0_3) := (blk_cell BK638.out 3).trans rfl
         have hcz46_4 : wc.cell? ⟨gb638, 4, none⟩ = some (.int .i64 a0_4) := (blk_cell BK638.out 4).trans rfl
         have hcz46_5 : wc.cell? ⟨gb638, 5, none⟩ = some (.int .i64 a0_5) := (blk_cell BK638.out 5).trans rfl
         have hfz46_0 := blk_frozen BK638.out 0
         have hfz46_1 := blk_frozen BK638.out 1
         have hfz46_2 := blk_frozen BK638.out 2
         have hfz46_3 := blk_frozen BK638.out 3
         have hfz46_4 := blk_frozen BK638.out 4
         have hfz46_5 := blk_frozen BK638.out 5
         go_wp2_with (first | (go_at_call 50; (with_reducible refine (sym_Check.calls kj11 (⟨#[97]⟩ : ByteArray) a0_1 a0_2 a0_3 a0_4 a0_5 16 t644 _ A44.out).mono ?_); rintro e w47 ⟨rfl, hb⟩; have n0_ := Aside0.mk (blk_below (g := gb638) (o := .cells #[.string (⟨#[97]⟩ : ByteArray), .int .u8 a0_1, .bool a0_2, .int .i64 a0_3, .int .i64 a0_4, .int .i64 a0_5] 64 (0, 0)) (by (with_reducible repeat (first | refine blk_drewN ?_ _ | refine blk_drew ?_ | refine blk_alloc ?_ _)); exact BK638.out) hb); have n1_ := Aside0.mk (below_step (by repeat (first | (with_reducible first | exact HB.out | apply below_alloc | apply pw_below_drewN | apply below_drew1 | refine below_set ?_ GE638.out) | exact HB.out)) hb); clear BK638; clear HB; have BK638 := n0_; have HB := n1_; clear n0_ n1_; (try clear hb); (try clear hb2); (try clear hk); (try clear hi)))
         go_ret
         exact ⟨by first | rfl | (simp [errW_none, errW_some] <;> rfl) | (simp [*, errW_none, errW_some] <;> rfl), by repeat (first | (with_reducible first | exact HB.out | apply below_alloc | apply pw_below_drewN | apply below_drew1 | refine below_set ?_ GE638.out) | exact HB.out)⟩
       ·
        replace c43 := Bool.eq_false_iff.mpr c43
        subst c43
        have H1 : (none) = some r := by rw [if_neg (show ¬ (false = true) by decide)] at H; exact H
        clear H
        have H := H1
        clear H1
        exact absurd H (by simp)
     ·
      replace c16 := Bool.eq_false_iff.mpr c16
      subst c16
      have H1 : (if a0_3 = 0 then (if x4_2 = true then (if a0_4 = 0 then (if a0_5 = 0 then (if t639 = true then ((sym_Check.f kj11 (⟨#[97]⟩ : ByteArray) a0_1 a0_2 a0_3 a0_4 a0_5 16).bind fun t645 => (if t645 = 0 then (some (decide (a0_1 > 0))) else (some (!(decide (a0_1 > 0)))))) else (none)) else (if t639 = true then ((sym_Check.f kj11 (⟨#[97]⟩ : ByteArray) a0_1 a0_2 a0_3 a0_4 a0_5 16).bind fun t646 => (if t646 = 0 then (none) else (some true))) else (none))) else (if t639 = true then ((sym_Check.f kj11 (⟨#[97]⟩ : ByteArray) a0_1 a0_2 a0_3 a0_4 a0_5 16).bind fun t647 => (if t647 = 0 then (none) else (some true))) else (none))) else (if t639 = true then ((sym_Check.f kj11 (⟨#[97]⟩ : ByteArray) a0_1 a0_2 a0_3 a0_4 a0_5 16).bind fun t648 => (if t648 = 0 then (none) else (some true))) else (none))) else (if a0_3 = (-1) then (if x4_2 = true then (if a0_4 ≥ (-2147483648) then (if a0_4 < 4294967296 then (if t639 = true then ((sym_Check.f kj11 (⟨#[97]⟩ : ByteArray) a0_1 a0_2 a0_3 a0_4 a0_5 16).bind fun t649 => (if t649 = 0 then (some (a0_5 == 0)) else (some (!(a0_5 == 0))))) else (none)) else (if t639 = true then ((sym_Check.f kj11 (⟨#[97]⟩ : ByteArray) a0_1 a0_2 a0_3 a0_4 a0_5 16).bind fun t650 => (if t650 = 0 then (none) else (some true))) else (none))) else (if t639 = true then ((sym_Check.f kj11 (⟨#[97]⟩ : ByteArray) a0_1 a0_2 a0_3 a0_4 a0_5 16).bind fun t651 => (if t651 = 0 then (none) else (some true))) else (none))) else (if t639 = true then ((sym_Check.f kj11 (⟨#[97]⟩ : ByteArray) a0_1 a0_2 a0_3 a0_4 a0_5 16).bind fun t652 => (if t652 = 0 then (none) else (some true))) else (none))) else (if a0_3 = (-2) then (if x4_2 = true then (if a0_4 = 1 then (if a0_5 ≥ 1 then (if a0_5 ≤ 4096 then (if t639 = true then ((sym_Check.f kj11 (⟨#[97]⟩ : ByteArray) a0_1 a0_2 a0_3 a0_4 a0_5 16).bind fun t653 => (if t653 = 0 then (some (a0_1 == 1)) else (some (!(a0_1 == 1))))) else (none)) else (if t639 = true then ((sym_Check.f kj11 (⟨#[97]⟩ : ByteArray) a0_1 a0_2 a0_3 a0_4 a0_5 16).bind fun t654 => (if t654 = 0 then (none) else (some true))) else (none))) else (if t639 = true then ((sym_Check.f kj11 (⟨#[97]⟩ : ByteArray) a0_1 a0_2 a0_3 a0_4 a0_5 16).bind fun t655 => (if t655 = 0 then (none) else (some true))) else (none))) else (if a0_4 = 2 then (if a0_5 ≥ 1 then (if a0_5 ≤ 4096 then (if t639 = true then ((sym_Check.f kj11 (⟨#[97]⟩ : ByteArray) a0_1 a0_2 a0_3 a0_4 a0_5 16).bind fun t656 => (if t656 = 0 then (some (a0_1 == 1)) else (some (!(a0_1 == 1))))) else (none)) else (if t639 = true then ((sym_Check.f kj11 (⟨#[97]⟩ : ByteArray) a0_1 a0_2 a0_3 a0_4 a0_5 16).bind fun t657 => (if t657 = 0 then (none) else (some true))) else (none))) else (if t639 = true then ((sym_Check.f kj11 (⟨#[97]⟩ : ByteArray) a0_1 a0_2 a0_3 a0_4 a0_5 16).bind fun t658 => (if t658 = 0 then (none) else (some true))) else (none))) else (if a0_4 = 4 then (if a0_5 ≥ 1 then (if a0_5 ≤ 4096 then (if t639 = true then ((sym_Check.f kj11 (⟨#[97]⟩ : ByteArray) a0_1 a0_2 a0_3 a0_4 a0_5 16).bind fun t659 => (if t659 = 0 then (some (a0_1 == 1)) else (some (!(a0_1 == 1))))) else (none)) else (if t639 = true then ((sym_Check.f kj11 (⟨#[97]⟩ : ByteArray) a0_1 a0_2 a0_3 a0_4 a0_5 16).bind fun t660 => (if t660 = 0 then (none) else (some true))) else (none))) else (if t639 = true then ((sym_Check.f kj11 (⟨#[97]⟩ : ByteArray) a0_1 a0_2 a0_3 a0_4 a0_5 16).bind fun t661 => (if t661 = 0 then (none) else (some true))) else (none))) else (if a0_4 = 8 then (if a0_5 ≥ 1 then (if a0_5 ≤ 4096 then (if t639 = true then ((sym_Check.f kj11 (⟨#[97]⟩ : ByteArray) a0_1 a0_2 a0_3 a0_4 a0_5 16).bind fun t662 => (if t662 = 0 then (some (a0_1 == 1)) else (some (!(a0_1 == 1))))) else (none)) else (if t639 = true then ((sym_Check.f kj11 (⟨#[97]⟩ : ByteArray) a0_1 a0_2 a0_3 a0_4 a0_5 16).bind fun t663 => (if t663 = 0 then (none) else (some true))) else (none))) else (if t639 = true then ((sym_Check.f kj11 (⟨#[97]⟩ : ByteArray) a0_1 a0_2 a0_3 a0_4 a0_5 16).bind fun t664 => (if t664 = 0 then (none) else (some true))) else (none))) else (if a0_4 = 16 then (if a0_5 ≥ 1 then (if a0_5 ≤ 4096 then (if t639 = true then ((sym_Check.f kj11 (⟨#[97]⟩ : ByteArray) a0_1 a0_2 a0_3 a0_4 a0_5 16).bind fun t665 => (if t665 = 0 then (some (a0_1 == 1)) else (some (!(a0_1 == 1))))) else (none)) else (if t639 = true then ((sym_Check.f kj11 (⟨#[97]⟩ : ByteArray) a0_1 a0_2 a0_3 a0_4 a0_5 16).bind fun t666 => (if t666 = 0 then (none) else (some true))) else (none))) else (if t639 = true then ((sym_Check.f kj11 (⟨#[97]⟩ : ByteArray) a0_1 a0_2 a0_3 a0_4 a0_5 16).bind fun t667 => (if t667 = 0 then (none) else (some true))) else (none))) else (if a0_4 = 32 then (if a0_5 ≥ 1 then (if a0_5 ≤ 4096 then (if t639 = true then ((sym_Check.f kj11 (⟨#[97]⟩ : ByteArray) a0_1 a0_2 a0_3 a0_4 a0_5 16).bind fun t668 => (if t668 = 0 then (some (a0_1 == 1)) else (some (!(a0_1 == 1))))) else (none)) else (if t639 = true then ((sym_Check.f kj11 (⟨#[97]⟩ : ByteArray) a0_1 a0_2 a0_3 a0_4 a0_5 16).bind fun t669 => (if t669 = 0 then (none) else (some true))) else (none))) else (if t639 = true then ((sym_Check.f kj11 (⟨#[97]⟩ : ByteArray) a0_1 a0_2 a0_3 a0_4 a0_5 16).bind fun t670 => (if t670 = 0 then (none) else (some true))) else (none))) else (if a0_4 = 64 then (if a0_5 ≥ 1 then (if a0_5 ≤ 4096 then (if t639 = true then ((sym_Check.f kj11 (⟨#[97]⟩ : ByteArray) a0_1 a0_2 a0_3 a0_4 a0_5 16).bind fun t671 => (if t671 = 0 then (some (a0_1 == 1)) else (some (!(a0_1 == 1))))) else (none)) else (if t639 = true then ((sym_Check.f kj11 (⟨#[97]⟩ : ByteArray) a0_1 a0_2 a0_3 a0_4 a0_5 16).bind fun t672 => (if t672 = 0 then (none) else (some true))) else (none))) else (if t639 = true then ((sym_Check.f kj11 (⟨#[97]⟩ : ByteArray) a0_1 a0_2 a0_3 a0_4 a0_5 16).bind fun t673 => (if t673 = 0 then (none) else (some true))) else (none))) else (if t639 = true then ((sym_Check.f kj11 (⟨#[97]⟩ : ByteArray) a0_1 a0_2 a0_3 a0_4 a0_5 16).bind fun t674 => (if t674 = 0 then (none) else (some true))) else (none))))))))) else (if t639 = true then ((sym_Check.f kj11 (⟨#[97]⟩ : ByteArray) a0_1 a0_2 a0_3 a0_4 a0_5 16).bind fun t675 => (if t675 = 0 then (none) else (some true))) else (none))) else (if t639 = true then ((sym_Check.f kj11 (⟨#[97]⟩ : ByteArray) a0_1 a0_2 a0_3 a0_4 a0_5 16).bind fun t676 => (if t676 = 0 then (none) else (some true))) else (none))))) = some r := by rw [if_neg (show ¬ (false = true) by decide)] at H; exact H
      clear H
      have H := H1
      clear H1
      by_cases c48 : a0_3 = 0
      ·
       rw [if_pos c48] at H
       have c48b0 : (a0_3 == 0) = true := beq_iff_eq.mpr c48
       have c48b1 : (a0_3 != 0) = false := bne_eq_false_iff_eq.mpr c48
       clear c48
       by_cases c49 : x4_2 = true
       ·
        subst c49
        have H1 : (if a0_4 = 0 then (if a0_5 = 0 then (if t639 = true then ((sym_Check.f kj11 (⟨#[97]⟩ : ByteArray) a0_1 a0_2 a0_3 a0_4 a0_5 16).bind fun t645 => (if t645 = 0 then (some (decide (a0_1 > 0))) else (some (!(decide (a0_1 > 0)))))) else (none)) else (if t639 = true then ((sym_Check.f kj11 (⟨#[97]⟩ : ByteArray) a0_1 a0_2 a0_3 a0_4 a0_5 16).bind fun t646 => (if t646 = 0 then (none) else (some true))) else (none))) else (if t639 = true then ((sym_Check.f kj11 (⟨#[97]⟩ : ByteArray) a0_1 a0_2 a0_3 a0_4 a0_5 16).bind fun t647 => (if t647 = 0 then (none) else (some true))) else (none))) = some r := by rw [if_pos rfl] at H; exact H
        clear H
        have H := H1
        clear H1
        by_cases c50 : a0_4 = 0
        ·
         rw [if_pos c50] at H
         have c50b0 : (a0_4 == 0) = true := beq_iff_eq.mpr c50
         have c50b1 : (a0_4 != 0) = false := bne_eq_false_iff_eq.mpr c50
         clear c50
         by_cases c51 : a0_5 = 0
         ·
          rw [if_pos c51] at H
          have c51b0 : (a0_5 == 0) = true := beq_iff_eq.mpr c51
          have c51b1 : (a0_5 != 0) = false := bne_eq_false_iff_eq.mpr c51
          clear c51
          by_cases c52 : t639 = true
          ·
           subst c52
           have H1 : ((sym_Check.f kj11 (⟨#[97]⟩ : ByteArray) a0_1 a0_2 a0_3 a0_4 a0_5 16).bind fun t645 => (if t645 = 0 then (some (decide (a0_1 > 0))) else (some (!(decide (a0_1 > 0)))))) = some r := by rw [if_pos rfl] at H; exact H
           clear H
           have H := H1
           clear H1
           replace H := Option.bind_eq_some_iff.mp H
           obtain ⟨t645, A530, H⟩ := H
           replace H : (if t645 = 0 then (some (decide (a0_1 > 0))) else (some (!(decide (a0_1 > 0))))) = some r := H
           have A53 := Aside0.mk A530
           clear A530
           by_cases c54 : t645 = 0
           ·
            rw [if_pos c54] at H
            have c54b0 : (t645 == 0) = true := beq_iff_eq.mpr c54
            have c54b1 : (t645 != 0) = false := bne_eq_false_iff_eq.mpr c54
            clear c54
            obtain rfl := Option.some.inj H
            have hcz55_0 : wc.cell? ⟨gb638, 0, none⟩ = some (.string (⟨#[97]⟩ : ByteArray)) := (blk_cell BK638.out 0).trans rfl
            have hcz55_1 : wc.cell? ⟨gb638, 1, none⟩ = some (.int .u8 a0_1) := (blk_cell BK638.out 1).trans rfl
            have hcz55_2 : wc.cell? ⟨gb638, 2, none⟩ = some (.bool a0_2) := (blk_cell BK638.out 2).trans rfl
            have hcz55_3 : wc.cell? ⟨gb638, 3, none⟩ = some (.int .i64 a0_3) := (blk_cell BK638.out 3).trans rfl
            have hcz55_4 : wc.cell? ⟨gb638, 4, none⟩ = some (.int .i64 a0_4) := (blk_cell BK638.out 4).trans rfl
            have hcz55_5 : wc.cell? ⟨gb638, 5, none⟩ = some (.int .i64 a0_5) := (blk_cell BK638.out 5).trans rfl
            have hfz55_0 := blk_frozen BK638.out 0
            have hfz55_1 := blk_frozen BK638.out 1
            have hfz55_2 := blk_frozen BK638.out 2
            have hfz55_3 := blk_frozen BK638.out 3
            have hfz55_4 := blk_frozen BK638.out 4
            have hfz55_5 := blk_frozen BK638.out 5
            go_wp2_with (first | (go_at_call 50; (with_reducible refine (sym_Check.calls kj11 (⟨#[97]⟩ : ByteArray) a0_1 a0_2 a0_3 a0_4 a0_5 16 t645 _ A53.out).mono ?_); rintro e w56 ⟨rfl, hb⟩; have n0_ := Aside0.mk (blk_below (g := gb638) (o := .cells #[.string (⟨#[97]⟩ : ByteArray), .int .u8 a0_1, .bool a0_2, .int .i64 a0_3, .int .i64 a0_4, .int .i64 a0_5] 64 (0, 0)) (by (with_reducible repeat (first | refine blk_drewN ?_ _ | refine blk_drew ?_ | refine blk_alloc ?_ _)); exact BK638.out) hb); have n1_ := Aside0.mk (below_step (by repeat (first | (with_reducible first | exact HB.out | apply below_alloc | apply pw_below_drewN | apply below_drew1 | refine below_set ?_ GE638.out) | exact HB.out)) hb); clear BK638; clear HB; have BK638 := n0_; have HB := n1_; clear n0_ n1_; (try clear hb); (try clear hb2); (try clear hk); (try clear hi)))
            go_ret
            exact ⟨by first | rfl | (simp [errW_none, errW_some] <;> rfl) | (simp [*, errW_none, errW_some] <;> rfl), by repeat (first | (with_reducible first | exact HB.out | apply below_alloc | apply pw_below_drewN | apply below_drew1 | refine below_set ?_ GE638.out) | exact HB.out)⟩
           ·
            rw [if_neg c54] at H
            have c54b0 : (t645 == 0) = false := beq_eq_false_iff_ne.mpr c54
            have c54b1 : (t645 != 0) = true := bne_iff_ne.mpr c54
            obtain rfl := Option.some.inj H
            have hcz57_0 : wc.cell? ⟨gb638, 0, none⟩ = some (.string (⟨#[97]⟩ : ByteArray)) := (blk_cell BK638.out 0).trans rfl
            have hcz57_1 : wc.cell? ⟨gb638, 1, none⟩ = some (.int .u8 a0_1) := (blk_cell BK638.out 1).trans rfl
            have hcz57_2 : wc.cell? ⟨gb638, 2, none⟩ = some (.bool a0_2) := (blk_cell BK638.out 2).trans rfl
            have hcz57_3 : wc.cell? ⟨gb638, 3, none⟩ = some (.int .i64 a0_3) := (blk_cell BK638.out 3).trans rfl
            have hcz57_4 : wc.cell? ⟨gb638, 4, none⟩ = some (.int .i64 a0_4) := (blk_cell BK638.out 4).trans rfl
            have hcz57_5 : wc.cell? ⟨gb638, 5, none⟩ = some (.int .i64 a0_5) := (blk_cell BK638.out 5).trans rfl
            have hfz57_0 := blk_frozen BK638.out 0
            have hfz57_1 := blk_frozen BK638.out 1
            have hfz57_2 := blk_frozen BK638.out 2
            have hfz57_3 := blk_frozen BK638.out 3
            have hfz57_4 := blk_frozen BK638.out 4
            have hfz57_5 := blk_frozen BK638.out 5
            go_wp2_with (first | (go_at_call 50; (with_reducible refine (sym_Check.calls kj11 (⟨#[97]⟩ : ByteArray) a0_1 a0_2 a0_3 a0_4 a0_5 16 t645 _ A53.out).mono ?_); rintro e w58 ⟨rfl, hb⟩; have n0_ := Aside0.mk (blk_below (g := gb638) (o := .cells #[.string (⟨#[97]⟩ : ByteArray), .int .u8 a0_1, .bool a0_2, .int .i64 a0_3, .int .i64 a0_4, .int .i64 a0_5] 64 (0, 0)) (by (with_reducible repeat (first | refine blk_drewN ?_ _ | refine blk_drew ?_ | refine blk_alloc ?_ _)); exact BK638.out) hb); have n1_ := Aside0.mk (below_step (by repeat (first | (with_reducible first | exact HB.out | apply below_alloc | apply pw_below_drewN | apply below_drew1 | refine below_set ?_ GE638.out) | exact HB.out)) hb); clear BK638; clear HB; have BK638 := n0_; have HB := n1_; clear n0_ n1_; (try clear hb); (try clear hb2); (try clear hk); (try clear hi)))
            go_ret
            exact ⟨by first | rfl | (simp [errW_none, errW_some] <;> rfl) | (simp [*, errW_none, errW_some] <;> rfl), by repeat (first | (with_reducible first | exact HB.out | apply below_alloc | apply pw_below_drewN | apply below_drew1 | refine below_set ?_ GE638.out) | exact HB.out)⟩
          ·
           replace c52 := Bool.eq_false_iff.mpr c52
           subst c52
           have H1 : (none) = some r := by rw [if_neg (show ¬ (false = true) by decide)] at H; exact H
           clear H
           have H := H1
           clear H1
           exact absurd H (by simp)
         ·
          rw [if_neg c51] at H
          have c51b0 : (a0_5 == 0) = false := beq_eq_false_iff_ne.mpr c51
          have c51b1 : (a0_5 != 0) = true := bne_iff_ne.mpr c51
          by_cases c59 : t639 = true
          ·
           subst c59
           have H1 : ((sym_Check.f kj11 (⟨#[97]⟩ : ByteArray) a0_1 a0_2 a0_3 a0_4 a0_5 16).bind fun t646 => (if t646 = 0 then (none) else (some true))) = some r := by rw [if_pos rfl] at H; exact H
           clear H
           have H := H1
           clear H1
           replace H := Option.bind_eq_some_iff.mp H
           obtain ⟨t646, A600, H⟩ := H
           replace H : (if t646 = 0 then (none) else (some true)) = some r := H
           have A60 := Aside0.mk A600
           clear A600
           by_cases c61 : t646 = 0
           ·
            rw [if_pos c61] at H
            exact absurd H (by simp)
           ·
            rw [if_neg c61] at H
            have c61b0 : (t646 == 0) = false := beq_eq_false_iff_ne.mpr c61
            have c61b1 : (t646 != 0) = true := bne_iff_ne.mpr c61
            obtain rfl := Option.some.inj H
            have hcz62_0 : wc.cell? ⟨gb638, 0, none⟩ = some (.string (⟨#[97]⟩ : ByteArray)) := (blk_cell BK638.out 0).trans rfl
            have hcz62_1 : wc.cell? ⟨gb638, 1, none⟩ = some (.int .u8 a0_1) := (blk_cell BK638.out 1).trans rfl
            have hcz62_2 : wc.cell? ⟨gb638, 2, none⟩ = some (.bool a0_2) := (blk_cell BK638.out 2).trans rfl
            have hcz62_3 : wc.cell? ⟨gb638, 3, none⟩ = some (.int .i64 a0_3) := (blk_cell BK638.out 3).trans rfl
            have hcz62_4 : wc.cell? ⟨gb638, 4, none⟩ = some (.int .i64 a0_4) := (blk_cell BK638.out 4).trans rfl
            have hcz62_5 : wc.cell? ⟨gb638, 5, none⟩ = some (.int .i64 a0_5) := (blk_cell BK638.out 5).trans rfl
            have hfz62_0 := blk_frozen BK638.out 0
            have hfz62_1 := blk_frozen BK638.out 1
            have hfz62_2 := blk_frozen BK638.out 2
            have hfz62_3 := blk_frozen BK638.out 3
            have hfz62_4 := blk_frozen BK638.out 4
            have hfz62_5 := blk_frozen BK638.out 5
            go_wp2_with (first | (go_at_call 50; (with_reducible refine (sym_Check.calls kj11 (⟨#[97]⟩ : ByteArray) a0_1 a0_2 a0_3 a0_4 a0_5 16 t646 _ A60.out).mono ?_); rintro e w63 ⟨rfl, hb⟩; have n0_ := Aside0.mk (blk_below (g := gb638) (o := .cells #[.string (⟨#[97]⟩ : ByteArray), .int .u8 a0_1, .bool a0_2, .int .i64 a0_3, .int .i64 a0_4, .int .i64 a0_5] 64 (0, 0)) (by (with_reducible repeat (first | refine blk_drewN ?_ _ | refine blk_drew ?_ | refine blk_alloc ?_ _)); exact BK638.out) hb); have n1_ := Aside0.mk (below_step (by repeat (first | (with_reducible first | exact HB.out | apply below_alloc | apply pw_below_drewN | apply below_drew1 | refine below_set ?_ GE638.out) | exact HB.out)) hb); clear BK638; clear HB; have BK638 := n0_; have HB := n1_; clear n0_ n1_; (try clear hb); (try clear hb2); (try clear hk); (try clear hi)))
            go_ret
            exact ⟨by first | rfl | (simp [errW_none, errW_some] <;> rfl) | (simp [*, errW_none, errW_some] <;> rfl), by repeat (first | (with_reducible first | exact HB.out | apply below_alloc | apply pw_below_drewN | apply below_drew1 | refine below_set ?_ GE638.out) | exact HB.out)⟩
          ·
           replace c59 := Bool.eq_false_iff.mpr c59
           subst c59
           have H1 : (none) = some r := by rw [if_neg (show ¬ (false = true) by decide)] at H; exact H
           clear H
           have H := H1
           clear H1
           exact absurd H (by simp)
        ·
         rw [if_neg c50] at H
         have c50b0 : (a0_4 == 0) = false := beq_eq_false_iff_ne.mpr c50
         have c50b1 : (a0_4 != 0) = true := bne_iff_ne.mpr c50
         by_cases c64 : t639 = true
         ·
          subst c64
          have H1 : ((sym_Check.f kj11 (⟨#[97]⟩ : ByteArray) a0_1 a0_2 a0_3 a0_4 a0_5 16).bind fun t647 => (if t647 = 0 then (none) else (some true))) = some r := by rw [if_pos rfl] at H; exact H
          clear H
          have H := H1
          clear H1
          replace H := Option.bind_eq_some_iff.mp H
          obtain ⟨t647, A650, H⟩ := H
          replace H : (if t647 = 0 then (none) else (some true)) = some r := H
          have A65 := Aside0.mk A650
          clear A650
          by_cases c66 : t647 = 0
          ·
           rw [if_pos c66] at H
           exact absurd H (by simp)
          ·
           rw [if_neg c66] at H
           have c66b0 : (t647 == 0) = false := beq_eq_false_iff_ne.mpr c66
           have c66b1 : (t647 != 0) = true := bne_iff_ne.mpr c66
           obtain rfl := Option.some.inj H
           have hcz67_0 : wc.cell? ⟨gb638, 0, none⟩ = some (.string (⟨#[97]⟩ : ByteArray)) := (blk_cell BK638.out 0).trans rfl
           have hcz67_1 : wc.cell? ⟨gb638, 1, none⟩ = some (.int .u8 a0_1) := (blk_cell BK638.out 1).trans rfl
           have hcz67_2 : wc.cell? ⟨gb638, 2, none⟩ = some (.bool a0_2) := (blk_cell BK638.out 2).trans rfl
           have hcz67_3 : wc.cell? ⟨gb638, 3, none⟩ = some (.int .i64 a0_3) := (blk_cell BK638.out 3).trans rfl
           have hcz67_4 : wc.cell? ⟨gb638, 4, none⟩ = some (.int .i64 a0_4) := (blk_cell BK638.out 4).trans rfl
           have hcz67_5 : wc.cell? ⟨gb638, 5, none⟩ = some (.int .i64 a0_5) := (blk_cell BK638.out 5).trans rfl
           have hfz67_0 := blk_frozen BK638.out 0
           have hfz67_1 := blk_frozen BK638.out 1
           have hfz67_2 := blk_frozen BK638.out 2
           have hfz67_3 := blk_frozen BK638.out 3
           have hfz67_4 := blk_frozen BK638.out 4
           have hfz67_5 := blk_frozen BK638.out 5
           go_wp2_with (first | (go_at_call 50; (with_reducible refine (sym_Check.calls kj11 (⟨#[97]⟩ : ByteArray) a0_1 a0_2 a0_3 a0_4 a0_5 16 t647 _ A65.out).mono ?_); rintro e w68 ⟨rfl, hb⟩; have n0_ := Aside0.mk (blk_below (g := gb638) (o := .cells #[.string (⟨#[97]⟩ : ByteArray), .int .u8 a0_1, .bool a0_2, .int .i64 a0_3, .int .i64 a0_4, .int .i64 a0_5] 64 (0, 0)) (by (with_reducible repeat (first | refine blk_drewN ?_ _ | refine blk_drew ?_ | refine blk_alloc ?_ _)); exact BK638.out) hb); have n1_ := Aside0.mk (below_step (by repeat (first | (with_reducible first | exact HB.out | apply below_alloc | apply pw_below_drewN | apply below_drew1 | refine below_set ?_ GE638.out) | exact HB.out)) hb); clear BK638; clear HB; have BK638 := n0_; have HB := n1_; clear n0_ n1_; (try clear hb); (try clear hb2); (try clear hk); (try clear hi)))
           go_ret
           exact ⟨by first | rfl | (simp [errW_none, errW_some] <;> rfl) | (simp [*, errW_none, errW_some] <;> rfl), by repeat (first | (with_reducible first | exact HB.out | apply below_alloc | apply pw_below_drewN | apply below_drew1 | refine below_set ?_ GE638.out) | exact HB.out)⟩
         ·
          replace c64 := Bool.eq_false_iff.mpr c64
          subst c64
          have H1 : (none) = some r := by rw [if_neg (show ¬ (false = true) by decide)] at H; exact H
          clear H
          have H := H1
          clear H1
          exact absurd H (by simp)
       ·
        replace c49 := Bool.eq_false_iff.mpr c49
        subst c49
        have H1 : (if t639 = true then ((sym_Check.f kj11 (⟨#[97]⟩ : ByteArray) a0_1 a0_2 a0_3 a0_4 a0_5 16).bind fun t648 => (if t648 = 0 then (none) else (some true))) else (none)) = some r := by rw [if_neg (show ¬ (false = true) by decide)] at H; exact H
        clear H
        have H := H1
        clear H1
        by_cases c69 : t639 = true
        ·
         subst c69
         have H1 : ((sym_Check.f kj11 (⟨#[97]⟩ : ByteArray) a0_1 a0_2 a0_3 a0_4 a0_5 16).bind fun t648 => (if t648 = 0 then (none) else (some true))) = some r := by rw [if_pos rfl] at H; exact H
         clear H
         have H := H1
         clear H1
         replace H := Option.bind_eq_some_iff.mp H
         obtain ⟨t648, A700, H⟩ := H
         replace H : (if t648 = 0 then (none) else (some true)) = some r := H
         have A70 := Aside0.mk A700
         clear A700
         by_cases c71 : t648 = 0
         ·
          rw [if_pos c71] at H
          exact absurd H (by simp)
         ·
          rw [if_neg c71] at H
          have c71b0 : (t648 == 0) = false := beq_eq_false_iff_ne.mpr c71
          have c71b1 : (t648 != 0) = true := bne_iff_ne.mpr c71
          obtain rfl := Option.some.inj H
          have hcz72_0 : wc.cell? ⟨gb638, 0, none⟩ = some (.string (⟨#[97]⟩ : ByteArray)) := (blk_cell BK638.out 0).trans rfl
          have hcz72_1 : wc.cell? ⟨gb638, 1, none⟩ = some (.int .u8 a0_1) := (blk_cell BK638.out 1).trans rfl
          have hcz72_2 : wc.cell? ⟨gb638, 2, none⟩ = some (.bool a0_2) := (blk_cell BK638.out 2).trans rfl
          have hcz72_3 : wc.cell? ⟨gb638, 3, none⟩ = some (.int .i64 a0_3) := (blk_cell BK638.out 3).trans rfl
          have hcz72_4 : wc.cell? ⟨gb638, 4, none⟩ = some (.int .i64 a0_4) := (blk_cell BK638.out 4).trans rfl
          have hcz72_5 : wc.cell? ⟨gb638, 5, none⟩ = some (.int .i64 a0_5) := (blk_cell BK638.out 5).trans rfl
          have hfz72_0 := blk_frozen BK638.out 0
          have hfz72_1 := blk_frozen BK638.out 1
          have hfz72_2 := blk_frozen BK638.out 2
          have hfz72_3 := blk_frozen BK638.out 3
          have hfz72_4 := blk_frozen BK638.out 4
          have hfz72_5 := blk_frozen BK638.out 5
          go_wp2_with (first | (go_at_call 50; (with_reducible refine (sym_Check.calls kj11 (⟨#[97]⟩ : ByteArray) a0_1 a0_2 a0_3 a0_4 a0_5 16 t648 _ A70.out).mono ?_); rintro e w73 ⟨rfl, hb⟩; have n0_ := Aside0.mk (blk_below (g := gb638) (o := .cells #[.string (⟨#[97]⟩ : ByteArray), .int .u8 a0_1, .bool a0_2, .int .i64 a0_3, .int .i64 a0_4, .int .i64 a0_5] 64 (0, 0)) (by (with_reducible repeat (first | refine blk_drewN ?_ _ | refine blk_drew ?_ | refine blk_alloc ?_ _)); exact BK638.out) hb); have n1_ := Aside0.mk (below_step (by repeat (first | (with_reducible first | exact HB.out | apply below_alloc | apply pw_below_drewN | apply below_drew1 | refine below_set ?_ GE638.out) | exact HB.out)) hb); clear BK638; clear HB; have BK638 := n0_; have HB := n1_; clear n0_ n1_; (try clear hb); (try clear hb2); (try clear hk); (try clear hi)))
          go_ret
          exact ⟨by first | rfl | (simp [errW_none, errW_some] <;> rfl) | (simp [*, errW_none, errW_some] <;> rfl), by repeat (first | (with_reducible first | exact HB.out | apply below_alloc | apply pw_below_drewN | apply below_drew1 | refine below_set ?_ GE638.out) | exact HB.out)⟩
        ·
         replace c69 := Bool.eq_false_iff.mpr c69
         subst c69
         have H1 : (none) = some r := by rw [if_neg (show ¬ (false = true) by decide)] at H; exact H
         clear H
         have H := H1
         clear H1
         exact absurd H (by simp)
      ·
       rw [if_neg c48] at H
       have c48b0 : (a0_3 == 0) = false := beq_eq_false_iff_ne.mpr c48
       have c48b1 : (a0_3 != 0) = true := bne_iff_ne.mpr c48
       by_cases c74 : a0_3 = (-1)
       ·
        rw [if_pos c74] at H
        have c74b0 : (a0_3 == (-1)) = true := beq_iff_eq.mpr c74
        have c74b1 : (a0_3 != (-1)) = false := bne_eq_false_iff_eq.mpr c74
        clear c74
        by_cases c75 : x4_2 = true
        ·
         subst c75
         have H1 : (if a0_4 ≥ (-2147483648) then (if a0_4 < 4294967296 then (if t639 = true then ((sym_Check.f kj11 (⟨#[97]⟩ : ByteArray) a0_1 a0_2 a0_3 a0_4 a0_5 16).bind fun t649 => (if t649 = 0 then (some (a0_5 == 0)) else (some (!(a0_5 == 0))))) else (none)) else (if t639 = true then ((sym_Check.f kj11 (⟨#[97]⟩ : ByteArray) a0_1 a0_2 a0_3 a0_4 a0_5 16).bind fun t650 => (if t650 = 0 then (none) else (some true))) else (none))) else (if t639 = true then ((sym_Check.f kj11 (⟨#[97]⟩ : ByteArray) a0_1 a0_2 a0_3 a0_4 a0_5 16).bind fun t651 => (if t651 = 0 then (none) else (some true))) else (none))) = some r := by rw [if_pos rfl] at H; exact H
         clear H
         have H := H1
         clear H1
         by_cases c76 : a0_4 ≥ (-2147483648)
         ·
          rw [if_pos c76] at H
          have c76b0 : decide ((-2147483648) ≤ a0_4) = true := decide_eq_true c76
          clear c76
          by_cases c77 : a0_4 < 4294967296
          ·
           rw [if_pos c77] at H
           have c77b0 : decide (a0_4 < 4294967296) = true := decide_eq_true c77
           clear c77
           by_cases c78 : t639 = true
           ·
            subst c78
            have H1 : ((sym_Check.f kj11 (⟨#[97]⟩ : ByteArray) a0_1 a0_2 a0_3 a0_4 a0_5 16).bind fun t649 => (if t649 = 0 then (some (a0_5 == 0)) else (some (!(a0_5 == 0))))) = some r := by rw [if_pos rfl] at H; exact H
            clear H
            have H := H1
            clear H1
            replace H := Option.bind_eq_some_iff.mp H
            obtain ⟨t649, A790, H⟩ := H
            replace H : (if t649 = 0 then (some (a0_5 == 0)) else (some (!(a0_5 == 0)))) = some r := H
            have A79 := Aside0.mk A790
            clear A790
            by_cases c80 : t649 = 0
            ·
             rw [if_pos c80] at H
             have c80b0 : (t649 == 0) = true := beq_iff_eq.mpr c80
             have c80b1 : (t649 != 0) = false := bne_eq_false_iff_eq.mpr c80
             clear c80
             obtain rfl := Option.some.inj H
             have hcz81_0 : wc.cell? ⟨gb638, 0, none⟩ = some (.string (⟨#[97]⟩ : ByteArray)) := (blk_cell BK638.out 0).trans rfl
             have hcz81_1 : wc.cell? ⟨gb638, 1, none⟩ = some (.int .u8 a0_1) := (blk_cell BK638.out 1).trans rfl
             have hcz81_2 : wc.cell? ⟨gb638, 2, none⟩ = some (.bool a0_2) := (blk_cell BK638.out 2).trans rfl
             have hcz81_3 : wc.cell? ⟨gb638, 3, none⟩ = some (.int .i64 a0_3) := (blk_cell BK638.out 3).trans rfl
             have hcz81_4 : wc.cell? ⟨gb638, 4, none⟩ = some (.int .i64 a0_4) := (blk_cell BK638.out 4).trans rfl
             have hcz81_5 : wc.cell? ⟨gb638, 5, none⟩ = some (.int .i64 a0_5) := (blk_cell BK638.out 5).trans rfl
             have hfz81_0 := blk_frozen BK638.out 0
             have hfz81_1 := blk_frozen BK638.out 1
             have hfz81_2 := blk_frozen BK638.out 2
             have hfz81_3 := blk_frozen BK638.out 3
             have hfz81_4 := blk_frozen BK638.out 4
             have hfz81_5 := blk_frozen BK638.out 5
             go_wp2_with (first | (go_at_call 50; (with_reducible refine (sym_Check.calls kj11 (⟨#[97]⟩ : ByteArray) a0_1 a0_2 a0_3 a0_4 a0_5 16 t649 _ A79.out).mono ?_); rintro e w82 ⟨rfl, hb⟩; have n0_ := Aside0.mk (blk_below (g := gb638) (o := .cells #[.string (⟨#[97]⟩ : ByteArray), .int .u8 a0_1, .bool a0_2, .int .i64 a0_3, .int .i64 a0_4, .int .i64 a0_5] 64 (0, 0)) (by (with_reducible repeat (first | refine blk_drewN ?_ _ | refine blk_drew ?_ | refine blk_alloc ?_ _)); exact BK638.out) hb); have n1_ := Aside0.mk (below_step (by repeat (first | (with_reducible first | exact HB.out | apply below_alloc | apply pw_below_drewN | apply below_drew1 | refine below_set ?_ GE638.out) | exact HB.out)) hb); clear BK638; clear HB; have BK638 := n0_; have HB := n1_; clear n0_ n1_; (try clear hb); (try clear hb2); (try clear hk); (try clear hi)))
             go_ret
             exact ⟨by first | rfl | (simp [errW_none, errW_some] <;> rfl) | (simp [*, errW_none, errW_some] <;> rfl), by repeat (first | (with_reducible first | exact HB.out | apply below_alloc | apply pw_below_drewN | apply below_drew1 | refine below_set ?_ GE638.out) | exact HB.out)⟩
            ·
             rw [if_neg c80] at H
             have c80b0 : (t649 == 0) = false := beq_eq_false_iff_ne.mpr c80
             have c80b1 : (t649 != 0) = true := bne_iff_ne.mpr c80
             obtain rfl := Option.some.inj H
             have hcz83_0 : wc.cell? ⟨gb638, 0, none⟩ = some (.string (⟨#[97]⟩ : ByteArray)) := (blk_cell BK638.out 0).trans rfl
             have hcz83_1 : wc.cell? ⟨gb638, 1, none⟩ = some (.int .u8 a0_1) := (blk_cell BK638.out 1).trans rfl
             have hcz83_2 : wc.cell? ⟨gb638, 2, none⟩ = some (.bool a0_2) := (blk_cell BK638.out 2).trans rfl
             have hcz83_3 : wc.cell? ⟨gb638, 3, none⟩ = some (.int .i64 a0_3) := (blk_cell BK638.out 3).trans rfl
             have hcz83_4 : wc.cell? ⟨gb638, 4, none⟩ = some (.int .i64 a0_4) := (blk_cell BK638.out 4).trans rfl
             have hcz83_5 : wc.cell? ⟨gb638, 5, none⟩ = some (.int .i64 a0_5) := (blk_cell BK638.out 5).trans rfl
             have hfz83_0 := blk_frozen BK638.out 0
             have hfz83_1 := blk_frozen BK638.out 1
             have hfz83_2 := blk_frozen BK638.out 2
             have hfz83_3 := blk_frozen BK638.out 3
             have hfz83_4 := blk_frozen BK638.out 4
             have hfz83_5 := blk_frozen BK638.out 5
             go_wp2_with (first | (go_at_call 50; (with_reducible refine (sym_Check.calls kj11 (⟨#[97]⟩ : ByteArray) a0_1 a0_2 a0_3 a0_4 a0_5 16 t649 _ A79.out).mono ?_); rintro e w84 ⟨rfl, hb⟩; have n0_ := Aside0.mk (blk_below (g := gb638) (o := .cells #[.string (⟨#[97]⟩ : ByteArray), .int .u8 a0_1, .bool a0_2, .int .i64 a0_3, .int .i64 a0_4, .int .i64 a0_5] 64 (0, 0)) (by (with_reducible repeat (first | refine blk_drewN ?_ _ | refine blk_drew ?_ | refine blk_alloc ?_ _)); exact BK638.out) hb); have n1_ := Aside0.mk (below_step (by repeat (first | (with_reducible first | exact HB.out | apply below_alloc | apply pw_below_drewN | apply below_drew1 | refine below_set ?_ GE638.out) | exact HB.out)) hb); clear BK638; clear HB; have BK638 := n0_; have HB := n1_; clear n0_ n1_; (try clear hb); (try clear hb2); (try clear hk); (try clear hi)))
             go_ret
             exact ⟨by first | rfl | (simp [errW_none, errW_some] <;> rfl) | (simp [*, errW_none, errW_some] <;> rfl), by repeat (first | (with_reducible first | exact HB.out | apply below_alloc | apply pw_below_drewN | apply below_drew1 | refine below_set ?_ GE638.out) | exact HB.out)⟩
           ·
            replace c78 := Bool.eq_false_iff.mpr c78
            subst c78
            have H1 : (none) = some r := by rw [if_neg (show ¬ (false = true) by decide)] at H; exact H
            clear H
            have H := H1
            clear H1
            exact absurd H (by simp)
          ·
           rw [if_neg c77] at H
           have c77b0 : decide (a0_4 < 4294967296) = false := decide_eq_false c77
           clear c77
           by_cases c85 : t639 = true
           ·
            subst c85
            have H1 : ((sym_Check.f kj11 (⟨#[97]⟩ : ByteArray) a0_1 a0_2 a0_3 a0_4 a0_5 16).bind fun t650 => (if t650 = 0 then (none) else (some true))) = some r := by rw [if_pos rfl] at H; exact H
            clear H
            have H := H1
            clear H1
            replace H := Option.bind_eq_some_iff.mp H
            obtain ⟨t650, A860, H⟩ := H
            replace H : (if t650 = 0 then (none) else (some true)) = some r := H
            have A86 := Aside0.mk A860
            clear A860
            by_cases c87 : t650 = 0
            ·
             rw [if_pos c87] at H
             exact absurd H (by simp)
            ·
             rw [if_neg c87] at H
             have c87b0 : (t650 == 0) = false := beq_eq_false_iff_ne.mpr c87
             have c87b1 : (t650 != 0) = true := bne_iff_ne.mpr c87
             obtain rfl := Option.some.inj H
             have hcz88_0 : wc.cell? ⟨gb638, 0, none⟩ = some (.string (⟨#[97]⟩ : ByteArray)) := (blk_cell BK638.out 0).trans rfl
             have hcz88_1 : wc.cell? ⟨gb638, 1, none⟩ = some (.int .u8 a0_1) := (blk_cell BK638.out 1).trans rfl
             have hcz88_2 : wc.cell? ⟨gb638, 2, none⟩ = some (.bool a0_2) := (blk_cell BK638.out 2).trans rfl
             have hcz88_3 : wc.cell? ⟨gb638, 3, none⟩ = some (.int .i64 a0_3) := (blk_cell BK638.out 3).trans rfl
             have hcz88_4 : wc.cell? ⟨gb638, 4, none⟩ = some (.int .i64 a0_4) := (blk_cell BK638.out 4).trans rfl
             have hcz88_5 : wc.cell? ⟨gb638, 5, none⟩ = some (.int .i64 a0_5) := (blk_cell BK638.out 5).trans rfl
             have hfz88_0 := blk_frozen BK638.out 0
             have hfz88_1 := blk_frozen BK638.out 1
             have hfz88_2 := blk_frozen BK638.out 2
             have hfz88_3 := blk_frozen BK638.out 3
             have hfz88_4 := blk_frozen BK638.out 4
             have hfz88_5 := blk_frozen BK638.out 5
             go_wp2_with (first | (go_at_call 50; (with_reducible refine (sym_Check.calls kj11 (⟨#[97]⟩ : ByteArray) a0_1 a0_2 a0_3 a0_4 a0_5 16 t650 _ A86.out).mono ?_); rintro e w89 ⟨rfl, hb⟩; have n0_ := Aside0.mk (blk_below (g := gb638) (o := .cells #[.string (⟨#[97]⟩ : ByteArray), .int .u8 a0_1, .bool a0_2, .int .i64 a0_3, .int .i64 a0_4, .int .i64 a0_5] 64 (0, 0)) (by (with_reducible repeat (first | refine blk_drewN ?_ _ | refine blk_drew ?_ | refine blk_alloc ?_ _)); exact BK638.out) hb); have n1_ := Aside0.mk (below_step (by repeat (first | (with_reducible first | exact HB.out | apply below_alloc | apply pw_below_drewN | apply below_drew1 | refine below_set ?_ GE638.out) | exact HB.out)) hb); clear BK638; clear HB; have BK638 := n0_; have HB := n1_; clear n0_ n1_; (try clear hb); (try clear hb2); (try clear hk); (try clear hi)))
             go_ret
             exact ⟨by first | rfl | (simp [errW_none, errW_some] <;> rfl) | (simp [*, errW_none, errW_some] <;> rfl), by repeat (first | (with_reducible first | exact HB.out | apply below_alloc | apply pw_below_drewN | apply below_drew1 | refine below_set ?_ GE638.out) | exact HB.out)⟩
           ·
            replace c85 := Bool.eq_false_iff.mpr c85
            subst c85
            have H1 : (none) = some r := by rw [if_neg (show ¬ (false = true) by decide)] at H; exact H
            clear H
            have H := H1
            clear H1
            exact absurd H (by simp)
         ·
          rw [if_neg c76] at H
          have c76b0 : decide ((-2147483648) ≤ a0_4) = false := decide_eq_false c76
          clear c76
          by_cases c90 : t639 = true
          ·
           subst c90
           have H1 : ((sym_Check.f kj11 (⟨#[97]⟩ : ByteArray) a0_1 a0_2 a0_3 a0_4 a0_5 16).bind fun t651 => (if t651 = 0 then (none) else (some true))) = some r := by rw [if_pos rfl] at H; exact H
           clear H
           have H := H1
           clear H1
           replace H := Option.bind_eq_some_iff.mp H
           obtain ⟨t651, A910, H⟩ := H
           replace H : (if t651 = 0 then (none) else (some true)) = some r := H
           have A91 := Aside0.mk A910
           clear A910
           by_cases c92 : t651 = 0
           ·
            rw [if_pos c92] at H
            exact absurd H (by simp)
           ·
            rw [if_neg c92] at H
            have c92b0 : (t651 == 0) = false := beq_eq_false_iff_ne.mpr c92
            have c92b1 : (t651 != 0) = true := bne_iff_ne.mpr c92
            obtain rfl := Option.some.inj H
            have hcz93_0 : wc.cell? ⟨gb638, 0, none⟩ = some (.string (⟨#[97]⟩ : ByteArray)) := (blk_cell BK638.out 0).trans rfl
            have hcz93_1 : wc.cell? ⟨gb638, 1, none⟩ = some (.int .u8 a0_1) := (blk_cell BK638.out 1).trans rfl
            have hcz93_2 : wc.cell? ⟨gb638, 2, none⟩ = some (.bool a0_2) := (blk_cell BK638.out 2).trans rfl
            have hcz93_3 : wc.cell? ⟨gb638, 3, none⟩ = some (.int .i64 a0_3) := (blk_cell BK638.out 3).trans rfl
            have hcz93_4 : wc.cell? ⟨gb638, 4, none⟩ = some (.int .i64 a0_4) := (blk_cell BK638.out 4).trans rfl
            have hcz93_5 : wc.cell? ⟨gb638, 5, none⟩ = some (.int .i64 a0_5) := (blk_cell BK638.out 5).trans rfl
            have hfz93_0 := blk_frozen BK638.out 0
            have hfz93_1 := blk_frozen BK638.out 1
            have hfz93_2 := blk_frozen BK638.out 2
            have hfz93_3 := blk_frozen BK638.out 3
            have hfz93_4 := blk_frozen BK638.out 4
            have hfz93_5 := blk_frozen BK638.out 5
            go_wp2_with (first | (go_at_call 50; (with_reducible refine (sym_Check.calls kj11 (⟨#[97]⟩ : ByteArray) a0_1 a0_2 a0_3 a0_4 a0_5 16 t651 _ A91.out).mono ?_); rintro e w94 ⟨rfl, hb⟩; have n0_ := Aside0.mk (blk_below (g := gb638) (o := .cells #[.string (⟨#[97]⟩ : ByteArray), .int .u8 a0_1, .bool a0_2, .int .i64 a0_3, .int .i64 a0_4, .int .i64 a0_5] 64 (0, 0)) (by (with_reducible repeat (first | refine blk_drewN ?_ _ | refine blk_drew ?_ | refine blk_alloc ?_ _)); exact BK638.out) hb); have n1_ := Aside0.mk (below_step (by repeat (first | (with_reducible first | exact HB.out | apply below_alloc | apply pw_below_drewN | apply below_drew1 | refine below_set ?_ GE638.out) | exact HB.out)) hb); clear BK638; clear HB; have BK638 := n0_; have HB := n1_; clear n0_ n1_; (try clear hb); (try clear hb2); (try clear hk); (try clear hi)))
            go_ret
            exact ⟨by first | rfl | (simp [errW_none, errW_some] <;> rfl) | (simp [*, errW_none, errW_some] <;> rfl), by repeat (first | (with_reducible first | exact HB.out | apply below_alloc | apply pw_below_drewN | apply below_drew1 | refine below_set ?_ GE638.out) | exact HB.out)⟩
          ·
           replace c90 := Bool.eq_false_iff.mpr c90
           subst c90
           have H1 : (none) = some r := by rw [if_neg (show ¬ (false = true) by decide)] at H; exact H
           clear H
           have H := H1
           clear H1
           exact absurd H (by simp)
        ·
         replace c75 := Bool.eq_false_iff.mpr c75
         subst c75
         have H1 : (if t639 = true then ((sym_Check.f kj11 (⟨#[97]⟩ : ByteArray) a0_1 a0_2 a0_3 a0_4 a0_5 16).bind fun t652 => (if t652 = 0 then (none) else (some true))) else (none)) = some r := by rw [if_neg (show ¬ (false = true) by decide)] at H; exact H
         clear H
         have H := H1
         clear H1
         by_cases c95 : t639 = true
         ·
          subst c95
          have H1 : ((sym_Check.f kj11 (⟨#[97]⟩ : ByteArray) a0_1 a0_2 a0_3 a0_4 a0_5 16).bind fun t652 => (if t652 = 0 then (none) else (some true))) = some r := by rw [if_pos rfl] at H; exact H
          clear H
          have H := H1
          clear H1
          replace H := Option.bind_eq_some_iff.mp H
          obtain ⟨t652, A960, H⟩ := H
          replace H : (if t652 = 0 then (none) else (some true)) = some r := H
          have A96 := Aside0.mk A960
          clear A960
          by_cases c97 : t652 = 0
          ·
           rw [if_pos c97] at H
           exact absurd H (by simp)
          ·
           rw [if_neg c97] at H
           have c97b0 : (t652 == 0) = false := beq_eq_false_iff_ne.mpr c97
           have c97b1 : (t652 != 0) = true := bne_iff_ne.mpr c97
           obtain rfl := Option.some.inj H
           have hcz98_0 : wc.cell? ⟨gb638, 0, none⟩ = some (.string (⟨#[97]⟩ : ByteArray)) := (blk_cell BK638.out 0).trans rfl
           have hcz98_1 : wc.cell? ⟨gb638, 1, none⟩ = some (.int .u8 a0_1) := (blk_cell BK638.out 1).trans rfl
           have hcz98_2 : wc.cell? ⟨gb638, 2, none⟩ = some (.bool a0_2) := (blk_cell BK638.out 2).trans rfl
           have hcz98_3 : wc.cell? ⟨gb638, 3, none⟩ = some (.int .i64 a0_3) := (blk_cell BK638.out 3).trans rfl
           have hcz98_4 : wc.cell? ⟨gb638, 4, none⟩ = some (.int .i64 a0_4) := (blk_cell BK638.out 4).trans rfl
           have hcz98_5 : wc.cell? ⟨gb638, 5, none⟩ = some (.int .i64 a0_5) := (blk_cell BK638.out 5).trans rfl
           have hfz98_0 := blk_frozen BK638.out 0
           have hfz98_1 := blk_frozen BK638.out 1
           have hfz98_2 := blk_frozen BK638.out 2
           have hfz98_3 := blk_frozen BK638.out 3
           have hfz98_4 := blk_frozen BK638.out 4
           have hfz98_5 := blk_frozen BK638.out 5
           go_wp2_with (first | (go_at_call 50; (with_reducible refine (sym_Check.calls kj11 (⟨#[97]⟩ : ByteArray) a0_1 a0_2 a0_3 a0_4 a0_5 16 t652 _ A96.out).mono ?_); rintro e w99 ⟨rfl, hb⟩; have n0_ := Aside0.mk (blk_below (g := gb638) (o := .cells #[.string (⟨#[97]⟩ : ByteArray), .int .u8 a0_1, .bool a0_2, .int .i64 a0_3, .int .i64 a0_4, .int .i64 a0_5] 64 (0, 0)) (by (with_reducible repeat (first | refine blk_drewN ?_ _ | refine blk_drew ?_ | refine blk_alloc ?_ _)); exact BK638.out) hb); have n1_ := Aside0.mk (below_step (by repeat (first | (with_reducible first | exact HB.out | apply below_alloc | apply pw_below_drewN | apply below_drew1 | refine below_set ?_ GE638.out) | exact HB.out)) hb); clear BK638; clear HB; have BK638 := n0_; have HB := n1_; clear n0_ n1_; (try clear hb); (try clear hb2); (try clear hk); (try clear hi)))
           go_ret
           exact ⟨by first | rfl | (simp [errW_none, errW_some] <;> rfl) | (simp [*, errW_none, errW_some] <;> rfl), by repeat (first | (with_reducible first | exact HB.out | apply below_alloc | apply pw_below_drewN | apply below_drew1 | refine below_set ?_ GE638.out) | exact HB.out)⟩
         ·
          replace c95 := Bool.eq_false_iff.mpr c95
          subst c95
          have H1 : (none) = some r := by rw [if_neg (show ¬ (false = true) by decide)] at H; exact H
          clear H
          have H := H1
          clear H1
          exact absurd H (by simp)
       ·
        rw [if_neg c74] at H
        have c74b0 : (a0_3 == (-1)) = false := beq_eq_false_iff_ne.mpr c74
        have c74b1 : (a0_3 != (-1)) = true := bne_iff_ne.mpr c74
        by_cases c100 : a0_3 = (-2)
        ·
         rw [if_pos c100] at H
         have c100b0 : (a0_3 == (-2)) = true := beq_iff_eq.mpr c100
         have c100b1 : (a0_3 != (-2)) = false := bne_eq_false_iff_eq.mpr c100
         clear c100
         by_cases c101 : x4_2 = true
         ·
          subst c101
          have H1 : (if a0_4 = 1 then (if a0_5 ≥ 1 then (if a0_5 ≤ 4096 then (if t639 = true then ((sym_Check.f kj11 (⟨#[97]⟩ : ByteArray) a0_1 a0_2 a0_3 a0_4 a0_5 16).bind fun t653 => (if t653 = 0 then (some (a0_1 == 1)) else (some (!(a0_1 == 1))))) else (none)) else (if t639 = true then ((sym_Check.f kj11 (⟨#[97]⟩ : ByteArray) a0_1 a0_2 a0_3 a0_4 a0_5 16).bind fun t654 => (if t654 = 0 then (none) else (some true))) else (none))) else (if t639 = true then ((sym_Check.f kj11 (⟨#[97]⟩ : ByteArray) a0_1 a0_2 a0_3 a0_4 a0_5 16).bind fun t655 => (if t655 = 0 then (none) else (some true))) else (none))) else (if a0_4 = 2 then (if a0_5 ≥ 1 then (if a0_5 ≤ 4096 then (if t639 = true then ((sym_Check.f kj11 (⟨#[97]⟩ : ByteArray) a0_1 a0_2 a0_3 a0_4 a0_5 16).bind fun t656 => (if t656 = 0 then (some (a0_1 == 1)) else (some (!(a0_1 == 1))))) else (none)) else (if t639 = true then ((sym_Check.f kj11 (⟨#[97]⟩ : ByteArray) a0_1 a0_2 a0_3 a0_4 a0_5 16).bind fun t657 => (if t657 = 0 then (none) else (some true))) else (none))) else (if t639 = true then ((sym_Check.f kj11 (⟨#[97]⟩ : ByteArray) a0_1 a0_2 a0_3 a0_4 a0_5 16).bind fun t658 => (if t658 = 0 then (none) else (some true))) else (none))) else (if a0_4 = 4 then (if a0_5 ≥ 1 then (if a0_5 ≤ 4096 then (if t639 = true then ((sym_Check.f kj11 (⟨#[97]⟩ : ByteArray) a0_1 a0_2 a0_3 a0_4 a0_5 16).bind fun t659 => (if t659 = 0 then (some (a0_1 == 1)) else (some (!(a0_1 == 1))))) else (none)) else (if t639 = true then ((sym_Check.f kj11 (⟨#[97]⟩ : ByteArray) a0_1 a0_2 a0_3 a0_4 a0_5 16).bind fun t660 => (if t660 = 0 then (none) else (some true))) else (none))) else (if t639 = true then ((sym_Check.f kj11 (⟨#[97]⟩ : ByteArray) a0_1 a0_2 a0_3 a0_4 a0_5 16).bind fun t661 => (if t661 = 0 then (none) else (some true))) else (none))) else (if a0_4 = 8 then (if a0_5 ≥ 1 then (if a0_5 ≤ 4096 then (if t639 = true then ((sym_Check.f kj11 (⟨#[97]⟩ : ByteArray) a0_1 a0_2 a0_3 a0_4 a0_5 16).bind fun t662 => (if t662 = 0 then (some (a0_1 == 1)) else (some (!(a0_1 == 1))))) else (none)) else (if t639 = true then ((sym_Check.f kj11 (⟨#[97]⟩ : ByteArray) a0_1 a0_2 a0_3 a0_4 a0_5 16).bind fun t663 => (if t663 = 0 then (none) else (some true))) else (none))) else (if t639 = true then ((sym_Check.f kj11 (⟨#[97]⟩ : ByteArray) a0_1 a0_2 a0_3 a0_4 a0_5 16).bind fun t664 => (if t664 = 0 then (none) else (some true))) else (none))) else (if a0_4 = 16 then (if a0_5 ≥ 1 then (if a0_5 ≤ 4096 then (if t639 = true then ((sym_Check.f kj11 (⟨#[97]⟩ : ByteArray) a0_1 a0_2 a0_3 a0_4 a0_5 16).bind fun t665 => (if t665 = 0 then (some (a0_1 == 1)) else (some (!(a0_1 == 1))))) else (none)) else (if t639 = true then ((sym_Check.f kj11 (⟨#[97]⟩ : ByteArray) a0_1 a0_2 a0_3 a0_4 a0_5 16).bind fun t666 => (if t666 = 0 then (none) else (some true))) else (none))) else (if t639 = true then ((sym_Check.f kj11 (⟨#[97]⟩ : ByteArray) a0_1 a0_2 a0_3 a0_4 a0_5 16).bind fun t667 => (if t667 = 0 then (none) else (some true))) else (none))) else (if a0_4 = 32 then (if a0_5 ≥ 1 then (if a0_5 ≤ 4096 then (if t639 = true then ((sym_Check.f kj11 (⟨#[97]⟩ : ByteArray) a0_1 a0_2 a0_3 a0_4 a0_5 16).bind fun t668 => (if t668 = 0 then (some (a0_1 == 1)) else (some (!(a0_1 == 1))))) else (none)) else (if t639 = true then ((sym_Check.f kj11 (⟨#[97]⟩ : ByteArray) a0_1 a0_2 a0_3 a0_4 a0_5 16).bind fun t669 => (if t669 = 0 then (none) else (some true))) else (none))) else (if t639 = true then ((sym_Check.f kj11 (⟨#[97]⟩ : ByteArray) a0_1 a0_2 a0_3 a0_4 a0_5 16).bind fun t670 => (if t670 = 0 then (none) else (some true))) else (none))) else (if a0_4 = 64 then (if a0_5 ≥ 1 then (if a0_5 ≤ 4096 then (if t639 = true then ((sym_Check.f kj11 (⟨#[97]⟩ : ByteArray) a0_1 a0_2 a0_3 a0_4 a0_5 16).bind fun t671 => (if t671 = 0 then (some (a0_1 == 1)) else (some (!(a0_1 == 1))))) else (none)) else (if t639 = true then ((sym_Check.f kj11 (⟨#[97]⟩ : ByteArray) a0_1 a0_2 a0_3 a0_4 a0_5 16).bind fun t672 => (if t672 = 0 then (none) else (some true))) else (none))) else (if t639 = true then ((sym_Check.f kj11 (⟨#[97]⟩ : ByteArray) a0_1 a0_2 a0_3 a0_4 a0_5 16).bind fun t673 => (if t673 = 0 then (none) else (some true))) else (none))) else (if t639 = true then ((sym_Check.f kj11 (⟨#[97]⟩ : ByteArray) a0_1 a0_2 a0_3 a0_4 a0_5 16).bind fun t674 => (if t674 = 0 then (none) else (some true))) else (none))))))))) = some r := by rw [if_pos rfl] at H; exact H
          clear H
          have H := H1
          clear H1
          by_cases c102 : a0_4 = 1
          ·
           rw [if_pos c102] at H
           have c102b0 : (a0_4 == 1) = true := beq_iff_eq.mpr c102
           have c102b1 : (a0_4 != 1) = false := bne_eq_false_iff_eq.mpr c102
           clear c102
           by_cases c103 : a0_5 ≥ 1
           ·
            rw [if_pos c103] at H
            have c103b0 : decide (1 ≤ a0_5) = true := decide_eq_true c103
            clear c103
            by_cases c104 : a0_5 ≤ 4096
            ·
             rw [if_pos c104] at H
             have c104b0 : decide (a0_5 ≤ 4096) = true := decide_eq_true c104
             clear c104
             by_cases c105 : t639 = true
             ·
              subst c105
              have H1 : ((sym_Check.f kj11 (⟨#[97]⟩ : ByteArray) a0_1 a0_2 a0_3 a0_4 a0_5 16).bind fun t653 => (if t653 = 0 then (some (a0_1 == 1)) else (some (!(a0_1 == 1))))) = some r := by rw [if_pos rfl] at H; exact H
              clear H
              have H := H1
              clear H1
              replace H := Option.bind_eq_some_iff.mp H
              obtain ⟨t653, A1060, H⟩ := H
              replace H : (if t653 = 0 then (some (a0_1 == 1)) else (some (!(a0_1 == 1)))) = some r := H
              have A106 := Aside0.mk A1060
              clear A1060
              by_cases c107 : t653 = 0
              ·
               rw [if_pos c107] at H
               have c107b0 : (t653 == 0) = true := beq_iff_eq.mpr c107
               have c107b1 : (t653 != 0) = false := bne_eq_false_iff_eq.mpr c107
               clear c107
               obtain rfl := Option.some.inj H
               have hcz108_0 : wc.cell? ⟨gb638, 0, none⟩ = some (.string (⟨#[97]⟩ : ByteArray)) := (blk_cell BK638.out 0).trans rfl
               have hcz108_1 : wc.cell? ⟨gb638, 1, none⟩ = some (.int .u8 a0_1) := (blk_cell BK638.out 1).trans rfl
               have hcz108_2 : wc.cell? ⟨gb638, 2, none⟩ = some (.bool a0_2) := (blk_cell BK638.out 2).trans rfl
               have hcz108_3 : wc.cell? ⟨gb638, 3, none⟩ = some (.int .i64 a0_3) := (blk_cell BK638.out 3).trans rfl
               have hcz108_4 : wc.cell? ⟨gb638, 4, none⟩ = some (.int .i64 a0_4) := (blk_cell BK638.out 4).trans rfl
               have hcz108_5 : wc.cell? ⟨gb638, 5, none⟩ = some (.int .i64 a0_5) := (blk_cell BK638.out 5).trans rfl
               have hfz108_0 := blk_frozen BK638.out 0
               have hfz108_1 := blk_frozen BK638.out 1
               have hfz108_2 := blk_frozen BK638.out 2
               have hfz108_3 := blk_frozen BK638.out 3
               have hfz108_4 := blk_frozen BK638.out 4
               have hfz108_5 := blk_frozen BK638.out 5
               go_wp2_with (first | (go_at_call 50; (with_reducible refine (sym_Check.calls kj11 (⟨#[97]⟩ : ByteArray) a0_1 a0_2 a0_3 a0_4 a0_5 16 t653 _ A106.out).mono ?_); rintro e w109 ⟨rfl, hb⟩; have n0_ := Aside0.mk (blk_below (g := gb638) (o := .cells #[.string (⟨#[97]⟩ : ByteArray), .int .u8 a0_1, .bool a0_2, .int .i64 a0_3, .int .i64 a0_4, .int .i64 a0_5] 64 (0, 0)) (by (with_reducible repeat (first | refine blk_drewN ?_ _ | refine blk_drew ?_ | refine blk_alloc ?_ _)); exact BK638.out) hb); have n1_ := Aside0.mk (below_step (by repeat (first | (with_reducible first | exact HB.out | apply below_alloc | apply pw_below_drewN | apply below_drew1 | refine below_set ?_ GE638.out) | exact HB.out)) hb); clear BK638; clear HB; have BK638 := n0_; have HB := n1_; clear n0_ n1_; (try clear hb); (try clear hb2); (try clear hk); (try clear hi)))
               go_ret
               exact ⟨by first | rfl | (simp [errW_none, errW_some] <;> rfl) | (simp [*, errW_none, errW_some] <;> rfl), by repeat (first | (with_reducible first | exact HB.out | apply below_alloc | apply pw_below_drewN | apply below_drew1 | refine below_set ?_ GE638.out) | exact HB.out)⟩
              ·
               rw [if_neg c107] at H
               have c107b0 : (t653 == 0) = false := beq_eq_false_iff_ne.mpr c107
               have c107b1 : (t653 != 0) = true := bne_iff_ne.mpr c107
               obtain rfl := Option.some.inj H
               have hcz110_0 : wc.cell? ⟨gb638, 0, none⟩ = some (.string (⟨#[97]⟩ : ByteArray)) := (blk_cell BK638.out 0).trans rfl
               have hcz110_1 : wc.cell? ⟨gb638, 1, none⟩ = some (.int .u8 a0_1) := (blk_cell BK638.out 1).trans rfl
               have hcz110_2 : wc.cell? ⟨gb638, 2, none⟩ = some (.bool a0_2) := (blk_cell BK638.out 2).trans rfl
               have hcz110_3 : wc.cell? ⟨gb638, 3, none⟩ = some (.int .i64 a0_3) := (blk_cell BK638.out 3).trans rfl
               have hcz110_4 : wc.cell? ⟨gb638, 4, none⟩ = some (.int .i64 a0_4) := (blk_cell BK638.out 4).trans rfl
               have hcz110_5 : wc.cell? ⟨gb638, 5, none⟩ = some (.int .i64 a0_5) := (blk_cell BK638.out 5).trans rfl
               have hfz110_0 := blk_frozen BK638.out 0
               have hfz110_1 := blk_frozen BK638.out 1
               have hfz110_2 := blk_frozen BK638.out 2
               have hfz110_3 := blk_frozen BK638.out 3
               have hfz110_4 := blk_frozen BK638.out 4
               have hfz110_5 := blk_frozen BK638.out 5
               go_wp2_with (first | (go_at_call 50; (with_reducible refine (sym_Check.calls kj11 (⟨#[97]⟩ : ByteArray) a0_1 a0_2 a0_3 a0_4 a0_5 16 t653 _ A106.out).mono ?_); rintro e w111 ⟨rfl, hb⟩; have n0_ := Aside0.mk (blk_below (g := gb638) (o := .cells #[.string (⟨#[97]⟩ : ByteArray), .int .u8 a0_1, .bool a0_2, .int .i64 a0_3, .int .i64 a0_4, .int .i64 a0_5] 64 (0, 0)) (by (with_reducible repeat (first | refine blk_drewN ?_ _ | refine blk_drew ?_ | refine blk_alloc ?_ _)); exact BK638.out) hb); have n1_ := Aside0.mk (below_step (by repeat (first | (with_reducible first | exact HB.out | apply below_alloc | apply pw_below_drewN | apply below_drew1 | refine below_set ?_ GE638.out) | exact HB.out)) hb); clear BK638; clear HB; have BK638 := n0_; have HB := n1_; clear n0_ n1_; (try clear hb); (try clear hb2); (try clear hk); (try clear hi)))
               go_ret
               exact ⟨by first | rfl | (simp [errW_none, errW_some] <;> rfl) | (simp [*, errW_none, errW_some] <;> rfl), by repeat (first | (with_reducible first | exact HB.out | apply below_alloc | apply pw_below_drewN | apply below_drew1 | refine below_set ?_ GE638.out) | exact HB.out)⟩
             ·
              replace c105 := Bool.eq_false_iff.mpr c105
              subst c105
              have H1 : (none) = some r := by rw [if_neg (show ¬ (false = true) by decide)] at H; exact H
              clear H
              have H := H1
              clear H1
              exact absurd H (by simp)
            ·
             rw [if_neg c104] at H
             have c104b0 : decide (a0_5 ≤ 4096) = false := decide_eq_false c104
             clear c104
             by_cases c112 : t639 = true
             ·
              subst c112
              have H1 : ((sym_Check.f kj11 (⟨#[97]⟩ : ByteArray) a0_1 a0_2 a0_3 a0_4 a0_5 16).bind fun t654 => (if t654 = 0 then (none) else (some true))) = some r := by rw [if_pos rfl] at H; exact H
              clear H
              have H := H1
              clear H1
              replace H := Option.bind_eq_some_iff.mp H
              obtain ⟨t654, A1130, H⟩ := H
              replace H : (if t654 = 0 then (none) else (some true)) = some r := H
              have A113 := Aside0.mk A1130
              clear A1130
              by_cases c114 : t654 = 0
              ·
               rw [if_pos c114] at H
               exact absurd H (by simp)
              ·
               rw [if_neg c114] at H
               have c114b0 : (t654 == 0) = false := beq_eq_false_iff_ne.mpr c114
               have c114b1 : (t654 != 0) = true := bne_iff_ne.mpr c114
               obtain rfl := Option.some.inj H
               have hcz115_0 : wc.cell? ⟨gb638, 0, none⟩ = some (.string (⟨#[97]⟩ : ByteArray)) := (blk_cell BK638.out 0).trans rfl
               have hcz115_1 : wc.cell? ⟨gb638, 1, none⟩ = some (.int .u8 a0_1) := (blk_cell BK638.out 1).trans rfl
               have hcz115_2 : wc.cell? ⟨gb638, 2, none⟩ = some (.bool a0_2) := (blk_cell BK638.out 2).trans rfl
               have hcz115_3 : wc.cell? ⟨gb638, 3, none⟩ = some (.int .i64 a0_3) := (blk_cell BK638.out 3).trans rfl
               have hcz115_4 : wc.cell? ⟨gb638, 4, none⟩ = some (.int .i64 a0_4) := (blk_cell BK638.out 4).trans rfl
               have hcz115_5 : wc.cell? ⟨gb638, 5, none⟩ = some (.int .i64 a0_5) := (blk_cell BK638.out 5).trans rfl
               have hfz115_0 := blk_frozen BK638.out 0
               have hfz115_1 := blk_frozen BK638.out 1
               have hfz115_2 := blk_frozen BK638.out 2
               have hfz115_3 := blk_frozen BK638.out 3
               have hfz115_4 := blk_frozen BK638.out 4
               have hfz115_5 := blk_frozen BK638.out 5
               go_wp2_with (first | (go_at_call 50; (with_reducible refine (sym_Check.calls kj11 (⟨#[97]⟩ : ByteArray) a0_1 a0_2 a0_3 a0_4 a0_5 16 t654 _ A113.out).mono ?_); rintro e w116 ⟨rfl, hb⟩; have n0_ := Aside0.mk (blk_below (g := gb638) (o := .cells #[.string (⟨#[97]⟩ : ByteArray), .int .u8 a0_1, .bool a0_2, .int .i64 a0_3, .int .i64 a0_4, .int .i64 a0_5] 64 (0, 0)) (by (with_reducible repeat (first | refine blk_drewN ?_ _ | refine blk_drew ?_ | refine blk_alloc ?_ _)); exact BK638.out) hb); have n1_ := Aside0.mk (below_step (by repeat (first | (with_reducible first | exact HB.out | apply below_alloc | apply pw_below_drewN | apply below_drew1 | refine below_set ?_ GE638.out) | exact HB.out)) hb); clear BK638; clear HB; have BK638 := n0_; have HB := n1_; clear n0_ n1_; (try clear hb); (try clear hb2); (try clear hk); (try clear hi)))
               go_ret
               exact ⟨by first | rfl | (simp [errW_none, errW_some] <;> rfl) | (simp [*, errW_none, errW_some] <;> rfl), by repeat (first | (with_reducible first | exact HB.out | apply below_alloc | apply pw_below_drewN | apply below_drew1 | refine below_set ?_ GE638.out) | exact HB.out)⟩
             ·
              replace c112 := Bool.eq_false_iff.mpr c112
              subst c112
              have H1 : (none) = some r := by rw [if_neg (show ¬ (false = true) by decide)] at H; exact H
              clear H
              have H := H1
              clear H1
              exact absurd H (by simp)
           ·
            rw [if_neg c103] at H
            have c103b0 : decide (1 ≤ a0_5) = false := decide_eq_false c103
            clear c103
            by_cases c117 : t639 = true
            ·
             subst c117
             have H1 : ((sym_Check.f kj11 (⟨#[97]⟩ : ByteArray) a0_1 a0_2 a0_3 a0_4 a0_5 16).bind fun t655 => (if t655 = 0 then (none) else (some true))) = some r := by rw [if_pos rfl] at H; exact H
             clear H
             have H := H1
             clear H1
             replace H := Option.bind_eq_some_iff.mp H
             obtain ⟨t655, A1180, H⟩ := H
             replace H : (if t655 = 0 then (none) else (some true)) = some r := H
             have A118 := Aside0.mk A1180
             clear A1180
             by_cases c119 : t655 = 0
             ·
              rw [if_pos c119] at H
              exact absurd H (by simp)
             ·
              rw [if_neg c119] at H
              have c119b0 : (t655 == 0) = false := beq_eq_false_iff_ne.mpr c119
              have c119b1 : (t655 != 0) = true := bne_iff_ne.mpr c119
              obtain rfl := Option.some.inj H
              have hcz120_0 : wc.cell? ⟨gb638, 0, none⟩ = some (.string (⟨#[97]⟩ : ByteArray)) := (blk_cell BK638.out 0).trans rfl
              have hcz120_1 : wc.cell? ⟨gb638, 1, none⟩ = some (.int .u8 a0_1) := (blk_cell BK638.out 1).trans rfl
              have hcz120_2 : wc.cell? ⟨gb638, 2, none⟩ = some (.bool a0_2) := (blk_cell BK638.out 2).trans rfl
              have hcz120_3 : wc.cell? ⟨gb638, 3, none⟩ = some (.int .i64 a0_3) := (blk_cell BK638.out 3).trans rfl
              have hcz120_4 : wc.cell? ⟨gb638, 4, none⟩ = some (.int .i64 a0_4) := (blk_cell BK638.out 4).trans rfl
              have hcz120_5 : wc.cell? ⟨gb638, 5, none⟩ = some (.int .i64 a0_5) := (blk_cell BK638.out 5).trans rfl
              have hfz120_0 := blk_frozen BK638.out 0
              have hfz120_1 := blk_frozen BK638.out 1
              have hfz120_2 := blk_frozen BK638.out 2
              have hfz120_3 := blk_frozen BK638.out 3
              have hfz120_4 := blk_frozen BK638.out 4
              have hfz120_5 := blk_frozen BK638.out 5
              go_wp2_with (first | (go_at_call 50; (with_reducible refine (sym_Check.calls kj11 (⟨#[97]⟩ : ByteArray) a0_1 a0_2 a0_3 a0_4 a0_5 16 t655 _ A118.out).mono ?_); rintro e w121 ⟨rfl, hb⟩; have n0_ := Aside0.mk (blk_below (g := gb638) (o := .cells #[.string (⟨#[97]⟩ : ByteArray), .int .u8 a0_1, .bool a0_2, .int .i64 a0_3, .int .i64 a0_4, .int .i64 a0_5] 64 (0, 0)) (by (with_reducible repeat (first | refine blk_drewN ?_ _ | refine blk_drew ?_ | refine blk_alloc ?_ _)); exact BK638.out) hb); have n1_ := Aside0.mk (below_step (by repeat (first | (with_reducible first | exact HB.out | apply below_alloc | apply pw_below_drewN | apply below_drew1 | refine below_set ?_ GE638.out) | exact HB.out)) hb); clear BK638; clear HB; have BK638 := n0_; have HB := n1_; clear n0_ n1_; (try clear hb); (try clear hb2); (try clear hk); (try clear hi)))
              go_ret
              exact ⟨by first | rfl | (simp [errW_none, errW_some] <;> rfl) | (simp [*, errW_none, errW_some] <;> rfl), by repeat (first | (with_reducible first | exact HB.out | apply below_alloc | apply pw_below_drewN | apply below_drew1 | refine below_set ?_ GE638.out) | exact HB.out)⟩
            ·
             replace c117 := Bool.eq_false_iff.mpr c117
             subst c117
             have H1 : (none) = some r := by rw [if_neg (show ¬ (false = true) by decide)] at H; exact H
             clear H
             have H := H1
             clear H1
             exact absurd H (by simp)
          ·
           rw [if_neg c102] at H
           have c102b0 : (a0_4 == 1) = false := beq_eq_false_iff_ne.mpr c102
           have c102b1 : (a0_4 != 1) = true := bne_iff_ne.mpr c102
           by_cases c122 : a0_4 = 2
           ·
            rw [if_pos c122] at H
            have c122b0 : (a0_4 == 2) = true := beq_iff_eq.mpr c122
            have c122b1 : (a0_4 != 2) = false := bne_eq_false_iff_eq.mpr c122
            clear c122
            by_cases c123 : a0_5 ≥ 1
            ·
             rw [if_pos c123] at H
             have c123b0 : decide (1 ≤ a0_5) = true := decide_eq_true c123
             clear c123
             by_cases c124 : a0_5 ≤ 4096
             ·
              rw [if_pos c124] at H
              have c124b0 : decide (a0_5 ≤ 4096) = true := decide_eq_true c124
              clear c124
              by_cases c125 : t639 = true
              ·
               subst c125
               have H1 : ((sym_Check.f kj11 (⟨#[97]⟩ : ByteArray) a0_1 a0_2 a0_3 a0_4 a0_5 16).bind fun t656 => (if t656 = 0 then (some (a0_1 == 1)) else (some (!(a0_1 == 1))))) = some r := by rw [if_pos rfl] at H; exact H
               clear H
               have H := H1
               clear H1
               replace H := Option.bind_eq_some_iff.mp H
               obtain ⟨t656, A1260, H⟩ := H
               replace H : (if t656 = 0 then (some (a0_1 == 1)) else (some (!(a0_1 == 1)))) = some r := H
               have A126 := Aside0.mk A1260
               clear A1260
               by_cases c127 : t656 = 0
               ·
                rw [if_pos c127] at H
                have c127b0 : (t656 == 0) = true := beq_iff_eq.mpr c127
                have c127b1 : (t656 != 0) = false := bne_eq_false_iff_eq.mpr c127
                clear c127
                obtain rfl := Option.some.inj H
                have hcz128_0 : wc.cell? ⟨gb638, 0, none⟩ = some (.string (⟨#[97]⟩ : ByteArray)) := (blk_cell BK638.out 0).trans rfl
                have hcz128_1 : wc.cell? ⟨gb638, 1, none⟩ = some (.int .u8 a0_1) := (blk_cell BK638.out 1).trans rfl
                have hcz128_2 : wc.cell? ⟨gb638, 2, none⟩ = some (.bool a0_2) := (blk_cell BK638.out 2).trans rfl
                have hcz128_3 : wc.cell? ⟨gb638, 3, none⟩ = some (.int .i64 a0_3) := (blk_cell BK638.out 3).trans rfl
                have hcz128_4 : wc.cell? ⟨gb638, 4, none⟩ = some (.int .i64 a0_4) := (blk_cell BK638.out 4).trans rfl
                have hcz128_5 : wc.cell? ⟨gb638, 5, none⟩ = some (.int .i64 a0_5) := (blk_cell BK638.out 5).trans rfl
                have hfz128_0 := blk_frozen BK638.out 0
                have hfz128_1 := blk_frozen BK638.out 1
                have hfz128_2 := blk_frozen BK638.out 2
                have hfz128_3 := blk_frozen BK638.out 3
                have hfz128_4 := blk_frozen BK638.out 4
                have hfz128_5 := blk_frozen BK638.out 5
                go_wp2_with (first | (go_at_call 50; (with_reducible refine (sym_Check.calls kj11 (⟨#[97]⟩ : ByteArray) a0_1 a0_2 a0_3 a0_4 a0_5 16 t656 _ A126.out).mono ?_); rintro e w129 ⟨rfl, hb⟩; have n0_ := Aside0.mk (blk_below (g := gb638) (o := .cells #[.string (⟨#[97]⟩ : ByteArray), .int .u8 a0_1, .bool a0_2, .int .i64 a0_3, .int .i64 a0_4, .int .i64 a0_5] 64 (0, 0)) (by (with_reducible repeat (first | refine blk_drewN ?_ _ | refine blk_drew ?_ | refine blk_alloc ?_ _)); exact BK638.out) hb); have n1_ := Aside0.mk (below_step (by repeat (first | (with_reducible first | exact HB.out | apply below_alloc | apply pw_below_drewN | apply below_drew1 | refine below_set ?_ GE638.out) | exact HB.out)) hb); clear BK638; clear HB; have BK638 := n0_; have HB := n1_; clear n0_ n1_; (try clear hb); (try clear hb2); (try clear hk); (try clear hi)))
                go_ret
                exact ⟨by first | rfl | (simp [errW_none, errW_some] <;> rfl) | (simp [*, errW_none, errW_some] <;> rfl), by repeat (first | (with_reducible first | exact HB.out | apply below_alloc | apply pw_below_drewN | apply below_drew1 | refine below_set ?_ GE638.out) | exact HB.out)⟩
               ·
                rw [if_neg c127] at H
                have c127b0 : (t656 == 0) = false := beq_eq_false_iff_ne.mpr c127
                have c127b1 : (t656 != 0) = true := bne_iff_ne.mpr c127
                obtain rfl := Option.some.inj H
                have hcz130_0 : wc.cell? ⟨gb638, 0, none⟩ = some (.string (⟨#[97]⟩ : ByteArray)) := (blk_cell BK638.out 0).trans rfl
                have hcz130_1 : wc.cell? ⟨gb638, 1, none⟩ = some (.int .u8 a0_1) := (blk_cell BK638.out 1).trans rfl
                have hcz130_2 : wc.cell? ⟨gb638, 2, none⟩ = some (.bool a0_2) := (blk_cell BK638.out 2).trans rfl
                have hcz130_3 : wc.cell? ⟨gb638, 3, none⟩ = some (.int .i64 a0_3) := (blk_cell BK638.out 3).trans rfl
                have hcz130_4 : wc.cell? ⟨gb638, 4, none⟩ = some (.int .i64 a0_4) := (blk_cell BK638.out 4).trans rfl
                have hcz130_5 : wc.cell? ⟨gb638, 5, none⟩ = some (.int .i64 a0_5) := (blk_cell BK638.out 5).trans rfl
                have hfz130_0 := blk_frozen BK638.out 0
                have hfz130_1 := blk_frozen BK638.out 1
                have hfz130_2 := blk_frozen BK638.out 2
                have hfz130_3 := blk_frozen BK638.out 3
                have hfz130_4 := blk_frozen BK638.out 4
                have hfz130_5 := blk_frozen BK638.out 5
                go_wp2_with (first | (go_at_call 50; (with_reducible refine (sym_Check.calls kj11 (⟨#[97]⟩ : ByteArray) a0_1 a0_2 a0_3 a0_4 a0_5 16 t656 _ A126.out).mono ?_); rintro e w131 ⟨rfl, hb⟩; have n0_ := Aside0.mk (blk_below (g := gb638) (o := .cells #[.string (⟨#[97]⟩ : ByteArray), .int .u8 a0_1, .bool a0_2, .int .i64 a0_3, .int .i64 a0_4, .int .i64 a0_5] 64 (0, 0)) (by (with_reducible repeat (first | refine blk_drewN ?_ _ | refine blk_drew ?_ | refine blk_alloc ?_ _)); exact BK638.out) hb); have n1_ := Aside0.mk (below_step (by repeat (first | (with_reducible first | exact HB.out | apply below_alloc | apply pw_below_drewN | apply below_drew1 | refine below_set ?_ GE638.out) | exact HB.out)) hb); clear BK638; clear HB; have BK638 := n0_; have HB := n1_; clear n0_ n1_; (try clear hb); (try clear hb2); (try clear hk); (try clear hi)))
                go_ret
                exact ⟨by first | rfl | (simp [errW_none, errW_some] <;> rfl) | (simp [*, errW_none, errW_some] <;> rfl), by repeat (first | (with_reducible first | exact HB.out | apply below_alloc | apply pw_below_drewN | apply below_drew1 | refine below_set ?_ GE638.out) | exact HB.out)⟩
              ·
               replace c125 := Bool.eq_false_iff.mpr c125
               subst c125
               have H1 : (none) = some r := by rw [if_neg (show ¬ (false = true) by decide)] at H; exact H
               clear H
               have H := H1
               clear H1
               exact absurd H (by simp)
             ·
              rw [if_neg c124] at H
              have c124b0 : decide (a0_5 ≤ 4096) = false := decide_eq_false c124
              clear c124
              by_cases c132 : t639 = true
              ·
               subst c132
               have H1 : ((sym_Check.f kj11 (⟨#[97]⟩ : ByteArray) a0_1 a0_2 a0_3 a0_4 a0_5 16).bind fun t657 => (if t657 = 0 then (none) else (some true))) = some r := by rw [if_pos rfl] at H; exact H
               clear H
               have H := H1
               clear H1
               replace H := Option.bind_eq_some_iff.mp H
               obtain ⟨t657, A1330, H⟩ := H
               replace H : (if t657 = 0 then (none) else (some true)) = some r := H
               have A133 := Aside0.mk A1330
               clear A1330
               by_cases c134 : t657 = 0
               ·
                rw [if_pos c134] at H
                exact absurd H (by simp)
               ·
                rw [if_neg c134] at H
                have c134b0 : (t657 == 0) = false := beq_eq_false_iff_ne.mpr c134
                have c134b1 : (t657 != 0) = true := bne_iff_ne.mpr c134
                obtain rfl := Option.some.inj H
                have hcz135_0 : wc.cell? ⟨gb638, 0, none⟩ = some (.string (⟨#[97]⟩ : ByteArray)) := (blk_cell BK638.out 0).trans rfl
                have hcz135_1 : wc.cell? ⟨gb638, 1, none⟩ = some (.int .u8 a0_1) := (blk_cell BK638.out 1).trans rfl
                have hcz135_2 : wc.cell? ⟨gb638, 2, none⟩ = some (.bool a0_2) := (blk_cell BK638.out 2).trans rfl
                have hcz135_3 : wc.cell? ⟨gb638, 3, none⟩ = some (.int .i64 a0_3) := (blk_cell BK638.out 3).trans rfl
                have hcz135_4 : wc.cell? ⟨gb638, 4, none⟩ = some (.int .i64 a0_4) := (blk_cell BK638.out 4).trans rfl
                have hcz135_5 : wc.cell? ⟨gb638, 5, none⟩ = some (.int .i64 a0_5) := (blk_cell BK638.out 5).trans rfl
                have hfz135_0 := blk_frozen BK638.out 0
                have hfz135_1 := blk_frozen BK638.out 1
                have hfz135_2 := blk_frozen BK638.out 2
                have hfz135_3 := blk_frozen BK638.out 3
                have hfz135_4 := blk_frozen BK638.out 4
                have hfz135_5 := blk_frozen BK638.out 5
                go_wp2_with (first | (go_at_call 50; (with_reducible refine (sym_Check.calls kj11 (⟨#[97]⟩ : ByteArray) a0_1 a0_2 a0_3 a0_4 a0_5 16 t657 _ A133.out).mono ?_); rintro e w136 ⟨rfl, hb⟩; have n0_ := Aside0.mk (blk_below (g := gb638) (o := .cells #[.string (⟨#[97]⟩ : ByteArray), .int .u8 a0_1, .bool a0_2, .int .i64 a0_3, .int .i64 a0_4, .int .i64 a0_5] 64 (0, 0)) (by (with_reducible repeat (first | refine blk_drewN ?_ _ | refine blk_drew ?_ | refine blk_alloc ?_ _)); exact BK638.out) hb); have n1_ := Aside0.mk (below_step (by repeat (first | (with_reducible first | exact HB.out | apply below_alloc | apply pw_below_drewN | apply below_drew1 | refine below_set ?_ GE638.out) | exact HB.out)) hb); clear BK638; clear HB; have BK638 := n0_; have HB := n1_; clear n0_ n1_; (try clear hb); (try clear hb2); (try clear hk); (try clear hi)))
                go_ret
                exact ⟨by first | rfl | (simp [errW_none, errW_some] <;> rfl) | (simp [*, errW_none, errW_some] <;> rfl), by repeat (first | (with_reducible first | exact HB.out | apply below_alloc | apply pw_below_drewN | apply below_drew1 | refine below_set ?_ GE638.out) | exact HB.out)⟩
              ·
               replace c132 := Bool.eq_false_iff.mpr c132
               subst c132
               have H1 : (none) = some r := by rw [if_neg (show ¬ (false = true) by decide)] at H; exact H
               clear H
               have H := H1
               clear H1
               exact absurd H (by simp)
            ·
             rw [if_neg c123] at H
             have c123b0 : decide (1 ≤ a0_5) = false := decide_eq_false c123
             clear c123
             by_cases c137 : t639 = true
             ·
              subst c137
              have H1 : ((sym_Check.f kj11 (⟨#[97]⟩ : ByteArray) a0_1 a0_2 a0_3 a0_4 a0_5 16).bind fun t658 => (if t658 = 0 then (none) else (some true))) = some r := by rw [if_pos rfl] at H; exact H
              clear H
              have H := H1
              clear H1
              replace H := Option.bind_eq_some_iff.mp H
              obtain ⟨t658, A1380, H⟩ := H
              replace H : (if t658 = 0 then (none) else (some true)) = some r := H
              have A138 := Aside0.mk A1380
              clear A1380
              by_cases c139 : t658 = 0
              ·
               rw [if_pos c139] at H
               exact absurd H (by simp)
              ·
               rw [if_neg c139] at H
               have c139b0 : (t658 == 0) = false := beq_eq_false_iff_ne.mpr c139
               have c139b1 : (t658 != 0) = true := bne_iff_ne.mpr c139
               obtain rfl := Option.some.inj H
               have hcz140_0 : wc.cell? ⟨gb638, 0, none⟩ = some (.string (⟨#[97]⟩ : ByteArray)) := (blk_cell BK638.out 0).trans rfl
               have hcz140_1 : wc.cell? ⟨gb638, 1, none⟩ = some (.int .u8 a0_1) := (blk_cell BK638.out 1).trans rfl
               have hcz140_2 : wc.cell? ⟨gb638, 2, none⟩ = some (.bool a0_2) := (blk_cell BK638.out 2).trans rfl
               have hcz140_3 : wc.cell? ⟨gb638, 3, none⟩ = some (.int .i64 a0_3) := (blk_cell BK638.out 3).trans rfl
               have hcz140_4 : wc.cell? ⟨gb638, 4, none⟩ = some (.int .i64 a0_4) := (blk_cell BK638.out 4).trans rfl
               have hcz140_5 : wc.cell? ⟨gb638, 5, none⟩ = some (.int .i64 a0_5) := (blk_cell BK638.out 5).trans rfl
               have hfz140_0 := blk_frozen BK638.out 0
               have hfz140_1 := blk_frozen BK638.out 1
               have hfz140_2 := blk_frozen BK638.out 2
               have hfz140_3 := blk_frozen BK638.out 3
               have hfz140_4 := blk_frozen BK638.out 4
               have hfz140_5 := blk_frozen BK638.out 5
               go_wp2_with (first | (go_at_call 50; (with_reducible refine (sym_Check.calls kj11 (⟨#[97]⟩ : ByteArray) a0_1 a0_2 a0_3 a0_4 a0_5 16 t658 _ A138.out).mono ?_); rintro e w141 ⟨rfl, hb⟩; have n0_ := Aside0.mk (blk_below (g := gb638) (o := .cells #[.string (⟨#[97]⟩ : ByteArray), .int .u8 a0_1, .bool a0_2, .int .i64 a0_3, .int .i64 a0_4, .int .i64 a0_5] 64 (0, 0)) (by (with_reducible repeat (first | refine blk_drewN ?_ _ | refine blk_drew ?_ | refine blk_alloc ?_ _)); exact BK638.out) hb); have n1_ := Aside0.mk (below_step (by repeat (first | (with_reducible first | exact HB.out | apply below_alloc | apply pw_below_drewN | apply below_drew1 | refine below_set ?_ GE638.out) | exact HB.out)) hb); clear BK638; clear HB; have BK638 := n0_; have HB := n1_; clear n0_ n1_; (try clear hb); (try clear hb2); (try clear hk); (try clear hi)))
               go_ret
               exact ⟨by first | rfl | (simp [errW_none, errW_some] <;> rfl) | (simp [*, errW_none, errW_some] <;> rfl), by repeat (first | (with_reducible first | exact HB.out | apply below_alloc | apply pw_below_drewN | apply below_drew1 | refine below_set ?_ GE638.out) | exact HB.out)⟩
             ·
              replace c137 := Bool.eq_false_iff.mpr c137
              subst c137
              have H1 : (none) = some r := by rw [if_neg (show ¬ (false = true) by decide)] at H; exact H
              clear H
              have H := H1
              clear H1
              exact absurd H (by simp)
           ·
            rw [if_neg c122] at H
            have c122b0 : (a0_4 == 2) = false := beq_eq_false_iff_ne.mpr c122
            have c122b1 : (a0_4 != 2) = true := bne_iff_ne.mpr c122
            by_cases c142 : a0_4 = 4
            ·
             rw [if_pos c142] at H
             have c142b0 : (a0_4 == 4) = true := beq_iff_eq.mpr c142
             have c142b1 : (a0_4 != 4) = false := bne_eq_false_iff_eq.mpr c142
             clear c142
             by_cases c143 : a0_5 ≥ 1
             ·
              rw [if_pos c143] at H
              have c143b0 : decide (1 ≤ a0_5) = true := decide_eq_true c143
              clear c143
              by_cases c144 : a0_5 ≤ 4096
              ·
               rw [if_pos c144] at H
               have c144b0 : decide (a0_5 ≤ 4096) = true := decide_eq_true c144
               clear c144
               by_cases c145 : t639 = true
               ·
                subst c145
                have H1 : ((sym_Check.f kj11 (⟨#[97]⟩ : ByteArray) a0_1 a0_2 a0_3 a0_4 a0_5 16).bind fun t659 => (if t659 = 0 then (some (a0_1 == 1)) else (some (!(a0_1 == 1))))) = some r := by rw [if_pos rfl] at H; exact H
                clear H
                have H := H1
                clear H1
                replace H := Option.bind_eq_some_iff.mp H
                obtain ⟨t659, A1460, H⟩ := H
                replace H : (if t659 = 0 then (some (a0_1 == 1)) else (some (!(a0_1 == 1)))) = some r := H
                have A146 := Aside0.mk A1460
                clear A1460
                by_cases c147 : t659 = 0
                ·
                 rw [if_pos c147] at H
                 have c147b0 : (t659 == 0) = true := beq_iff_eq.mpr c147
                 have c147b1 : (t659 != 0) = false := bne_eq_false_iff_eq.mpr c147
                 clear c147
                 obtain rfl := Option.some.inj H
                 have hcz148_0 : wc.cell? ⟨gb638, 0, none⟩ = some (.string (⟨#[97]⟩ : ByteArray)) := (blk_cell BK638.out 0).trans rfl
                 have hcz148_1 : wc.cell? ⟨gb638, 1, none⟩ = some (.int .u8 a0_1) := (blk_cell BK638.out 1).trans rfl
                 have hcz148_2 : wc.cell? ⟨gb638, 2, none⟩ = some (.bool a0_2) := (blk_cell BK638.out 2).trans rfl
                 have hcz148_3 : wc.cell? ⟨gb638, 3, none⟩ = some (.int .i64 a0_3) := (blk_cell BK638.out 3).trans rfl
                 have hcz148_4 : wc.cell? ⟨gb638, 4, none⟩ = some (.int .i64 a0_4) := (blk_cell BK638.out 4).trans rfl
                 have hcz148_5 : wc.cell? ⟨gb638, 5, none⟩ = some (.int .i64 a0_5) := (blk_cell BK638.out 5).trans rfl
                 have hfz148_0 := blk_frozen BK638.out 0
                 have hfz148_1 := blk_frozen BK638.out 1
                 have hfz148_2 := blk_frozen BK638.out 2
                 have hfz148_3 := blk_frozen BK638.out 3
                 have hfz148_4 := blk_frozen BK638.out 4
                 have hfz148_5 := blk_frozen BK638.out 5
                 go_wp2_with (first | (go_at_call 50; (with_reducible refine (sym_Check.calls kj11 (⟨#[97]⟩ : ByteArray) a0_1 a0_2 a0_3 a0_4 a0_5 16 t659 _ A146.out).mono ?_); rintro e w149 ⟨rfl, hb⟩; have n0_ := Aside0.mk (blk_below (g := gb638) (o := .cells #[.string (⟨#[97]⟩ : ByteArray), .int .u8 a0_1, .bool a0_2, .int .i64 a0_3, .int .i64 a0_4, .int .i64 a0_5] 64 (0, 0)) (by (with_reducible repeat (first | refine blk_drewN ?_ _ | refine blk_drew ?_ | refine blk_alloc ?_ _)); exact BK638.out) hb); have n1_ := Aside0.mk (below_step (by repeat (first | (with_reducible first | exact HB.out | apply below_alloc | apply pw_below_drewN | apply below_drew1 | refine below_set ?_ GE638.out) | exact HB.out)) hb); clear BK638; clear HB; have BK638 := n0_; have HB := n1_; clear n0_ n1_; (try clear hb); (try clear hb2); (try clear hk); (try clear hi)))
                 go_ret
                 exact ⟨by first | rfl | (simp [errW_none, errW_some] <;> rfl) | (simp [*, errW_none, errW_some] <;> rfl), by repeat (first | (with_reducible first | exact HB.out | apply below_alloc | apply pw_below_drewN | apply below_drew1 | refine below_set ?_ GE638.out) | exact HB.out)⟩
                ·
                 rw [if_neg c147] at H
                 have c147b0 : (t659 == 0) = false := beq_eq_false_iff_ne.mpr c147
                 have c147b1 : (t659 != 0) = true := bne_iff_ne.mpr c147
                 obtain rfl := Option.some.inj H
                 have hcz150_0 : wc.cell? ⟨gb638, 0, none⟩ = some (.string (⟨#[97]⟩ : ByteArray)) := (blk_cell BK638.out 0).trans rfl
                 have hcz150_1 : wc.cell? ⟨gb638, 1, none⟩ = some (.int .u8 a0_1) := (blk_cell BK638.out 1).trans rfl
                 have hcz150_2 : wc.cell? ⟨gb638, 2, none⟩ = some (.bool a0_2) := (blk_cell BK638.out 2).trans rfl
                 have hcz150_3 : wc.cell? ⟨gb638, 3, none⟩ = some (.int .i64 a0_3) := (blk_cell BK638.out 3).trans rfl
                 have hcz150_4 : wc.cell? ⟨gb638, 4, none⟩ = some (.int .i64 a0_4) := (blk_cell BK638.out 4).trans rfl
                 have hcz150_5 : wc.cell? ⟨gb638, 5, none⟩ = some (.int .i64 a0_5) := (blk_cell BK638.out 5).trans rfl
                 have hfz150_0 := blk_frozen BK638.out 0
                 have hfz150_1 := blk_frozen BK638.out 1
                 have hfz150_2 := blk_frozen BK638.out 2
                 have hfz150_3 := blk_frozen BK638.out 3
                 have hfz150_4 := blk_frozen BK638.out 4
                 have hfz150_5 := blk_frozen BK638.out 5
                 go_wp2_with (first | (go_at_call 50; (with_reducible refine (sym_Check.calls kj11 (⟨#[97]⟩ : ByteArray) a0_1 a0_2 a0_3 a0_4 a0_5 16 t659 _ A146.out).mono ?_); rintro e w151 ⟨rfl, hb⟩; have n0_ := Aside0.mk (blk_below (g := gb638) (o := .cells #[.string (⟨#[97]⟩ : ByteArray), .int .u8 a0_1, .bool a0_2, .int .i64 a0_3, .int .i64 a0_4, .int .i64 a0_5] 64 (0, 0)) (by (with_reducible repeat (first | refine blk_drewN ?_ _ | refine blk_drew ?_ | refine blk_alloc ?_ _)); exact BK638.out) hb); have n1_ := Aside0.mk (below_step (by repeat (first | (with_reducible first | exact HB.out | apply below_alloc | apply pw_below_drewN | apply below_drew1 | refine below_set ?_ GE638.out) | exact HB.out)) hb); clear BK638; clear HB; have BK638 := n0_; have HB := n1_; clear n0_ n1_; (try clear hb); (try clear hb2); (try clear hk); (try clear hi)))
                 go_ret
                 exact ⟨by first | rfl | (simp [errW_none, errW_some] <;> rfl) | (simp [*, errW_none, errW_some] <;> rfl), by repeat (first | (with_reducible first | exact HB.out | apply below_alloc | apply pw_below_drewN | apply below_drew1 | refine below_set ?_ GE638.out) | exact HB.out)⟩
               ·
                replace c145 := Bool.eq_false_iff.mpr c145
                subst c145
                have H1 : (none) = some r := by rw [if_neg (show ¬ (false = true) by decide)] at H; exact H
                clear H
                have H := H1
                clear H1
                exact absurd H (by simp)
              ·
               rw [if_neg c144] at H
               have c144b0 : decide (a0_5 ≤ 4096) = false := decide_eq_false c144
               clear c144
               by_cases c152 : t639 = true
               ·
                subst c152
                have H1 : ((sym_Check.f kj11 (⟨#[97]⟩ : ByteArray) a0_1 a0_2 a0_3 a0_4 a0_5 16).bind fun t660 => (if t660 = 0 then (none) else (some true))) = some r := by rw [if_pos rfl] at H; exact H
                clear H
                have H := H1
                clear H1
                replace H := Option.bind_eq_some_iff.mp H
                obtain ⟨t660, A1530, H⟩ := H
                replace H : (if t660 = 0 then (none) else (some true)) = some r := H
                have A153 := Aside0.mk A1530
                clear A1530
                by_cases c154 : t660 = 0
                ·
                 rw [if_pos c154] at H
                 exact absurd H (by simp)
                ·
                 rw [if_neg c154] at H
                 have c154b0 : (t660 == 0) = false := beq_eq_false_iff_ne.mpr c154
                 have c154b1 : (t660 != 0) = true := bne_iff_ne.mpr c154
                 obtain rfl := Option.some.inj H
                 have hcz155_0 : wc.cell? ⟨gb638, 0, none⟩ = some (.string (⟨#[97]⟩ : ByteArray)) := (blk_cell BK638.out 0).trans rfl
                 have hcz155_1 : wc.cell? ⟨gb638, 1, none⟩ = some (.int .u8 a0_1) := (blk_cell BK638.out 1).trans rfl
                 have hcz155_2 : wc.cell? ⟨gb638, 2, none⟩ = some (.bool a0_2) := (blk_cell BK638.out 2).trans rfl
                 have hcz155_3 : wc.cell? ⟨gb638, 3, none⟩ = some (.int .i64 a0_3) := (blk_cell BK638.out 3).trans rfl
                 have hcz155_4 : wc.cell? ⟨gb638, 4, none⟩ = some (.int .i64 a0_4) := (blk_cell BK638.out 4).trans rfl
                 have hcz155_5 : wc.cell? ⟨gb638, 5, none⟩ = some (.int .i64 a0_5) := (blk_cell BK638.out 5).trans rfl
                 have hfz155_0 := blk_frozen BK638.out 0
                 have hfz155_1 := blk_frozen BK638.out 1
                 have hfz155_2 := blk_frozen BK638.out 2
                 have hfz155_3 := blk_frozen BK638.out 3
                 have hfz155_4 := blk_frozen BK638.out 4
                 have hfz155_5 := blk_frozen BK638.out 5
                 go_wp2_with (first | (go_at_call 50; (with_reducible refine (sym_Check.calls kj11 (⟨#[97]⟩ : ByteArray) a0_1 a0_2 a0_3 a0_4 a0_5 16 t660 _ A153.out).mono ?_); rintro e w156 ⟨rfl, hb⟩; have n0_ := Aside0.mk (blk_below (g := gb638) (o := .cells #[.string (⟨#[97]⟩ : ByteArray), .int .u8 a0_1, .bool a0_2, .int .i64 a0_3, .int .i64 a0_4, .int .i64 a0_5] 64 (0, 0)) (by (with_reducible repeat (first | refine blk_drewN ?_ _ | refine blk_drew ?_ | refine blk_alloc ?_ _)); exact BK638.out) hb); have n1_ := Aside0.mk (below_step (by repeat (first | (with_reducible first | exact HB.out | apply below_alloc | apply pw_below_drewN | apply below_drew1 | refine below_set ?_ GE638.out) | exact HB.out)) hb); clear BK638; clear HB; have BK638 := n0_; have HB := n1_; clear n0_ n1_; (try clear hb); (try clear hb2); (try clear hk); (try clear hi)))
                 go_ret
                 exact ⟨by first | rfl | (simp [errW_none, errW_some] <;> rfl) | (simp [*, errW_none, errW_some] <;> rfl), by repeat (first | (with_reducible first | exact HB.out | apply below_alloc | apply pw_below_drewN | apply below_drew1 | refine below_set ?_ GE638.out) | exact HB.out)⟩
               ·
                replace c152 := Bool.eq_false_iff.mpr c152
                subst c152
                have H1 : (none) = some r := by rw [if_neg (show ¬ (false = true) by decide)] at H; exact H
                clear H
                have H := H1
                clear H1
                exact absurd H (by simp)
             ·
              rw [if_neg c143] at H
              have c143b0 : decide (1 ≤ a0_5) = false := decide_eq_false c143
              clear c143
              by_cases c157 : t639 = true
              ·
               subst c157
               have H1 : ((sym_Check.f kj11 (⟨#[97]⟩ : ByteArray) a0_1 a0_2 a0_3 a0_4 a0_5 16).bind fun t661 => (if t661 = 0 then (none) else (some true))) = some r := by rw [if_pos rfl] at H; exact H
               clear H
               have H := H1
               clear H1
               replace H := Option.bind_eq_some_iff.mp H
               obtain ⟨t661, A1580, H⟩ := H
               replace H : (if t661 = 0 then (none) else (some true)) = some r := H
               have A158 := Aside0.mk A1580
               clear A1580
               by_cases c159 : t661 = 0
               ·
                rw [if_pos c159] at H
                exact absurd H (by simp)
               ·
                rw [if_neg c159] at H
                have c159b0 : (t661 == 0) = false := beq_eq_false_iff_ne.mpr c159
                have c159b1 : (t661 != 0) = true := bne_iff_ne.mpr c159
                obtain rfl := Option.some.inj H
                have hcz160_0 : wc.cell? ⟨gb638, 0, none⟩ = some (.string (⟨#[97]⟩ : ByteArray)) := (blk_cell BK638.out 0).trans rfl
                have hcz160_1 : wc.cell? ⟨gb638, 1, none⟩ = some (.int .u8 a0_1) := (blk_cell BK638.out 1).trans rfl
                have hcz160_2 : wc.cell? ⟨gb638, 2, none⟩ = some (.bool a0_2) := (blk_cell BK638.out 2).trans rfl
                have hcz160_3 : wc.cell? ⟨gb638, 3, none⟩ = some (.int .i64 a0_3) := (blk_cell BK638.out 3).trans rfl
                have hcz160_4 : wc.cell? ⟨gb638, 4, none⟩ = some (.int .i64 a0_4) := (blk_cell BK638.out 4).trans rfl
                have hcz160_5 : wc.cell? ⟨gb638, 5, none⟩ = some (.int .i64 a0_5) := (blk_cell BK638.out 5).trans rfl
                have hfz160_0 := blk_frozen BK638.out 0
                have hfz160_1 := blk_frozen BK638.out 1
                have hfz160_2 := blk_frozen BK638.out 2
                have hfz160_3 := blk_frozen BK638.out 3
                have hfz160_4 := blk_frozen BK638.out 4
                have hfz160_5 := blk_frozen BK638.out 5
                go_wp2_with (first | (go_at_call 50; (with_reducible refine (sym_Check.calls kj11 (⟨#[97]⟩ : ByteArray) a0_1 a0_2 a0_3 a0_4 a0_5 16 t661 _ A158.out).mono ?_); rintro e w161 ⟨rfl, hb⟩; have n0_ := Aside0.mk (blk_below (g := gb638) (o := .cells #[.string (⟨#[97]⟩ : ByteArray), .int .u8 a0_1, .bool a0_2, .int .i64 a0_3, .int .i64 a0_4, .int .i64 a0_5] 64 (0, 0)) (by (with_reducible repeat (first | refine blk_drewN ?_ _ | refine blk_drew ?_ | refine blk_alloc ?_ _)); exact BK638.out) hb); have n1_ := Aside0.mk (below_step (by repeat (first | (with_reducible first | exact HB.out | apply below_alloc | apply pw_below_drewN | apply below_drew1 | refine below_set ?_ GE638.out) | exact HB.out)) hb); clear BK638; clear HB; have BK638 := n0_; have HB := n1_; clear n0_ n1_; (try clear hb); (try clear hb2); (try clear hk); (try clear hi)))
                go_ret
                exact ⟨by first | rfl | (simp [errW_none, errW_some] <;> rfl) | (simp [*, errW_none, errW_some] <;> rfl), by repeat (first | (with_reducible first | exact HB.out | apply below_alloc | apply pw_below_drewN | apply below_drew1 | refine below_set ?_ GE638.out) | exact HB.out)⟩
              ·
               replace c157 := Bool.eq_false_iff.mpr c157
               subst c157
               have H1 : (none) = some r := by rw [if_neg (show ¬ (false = true) by decide)] at H; exact H
               clear H
               have H := H1
               clear H1
               exact absurd H (by simp)
            ·
             rw [if_neg c142] at H
             have c142b0 : (a0_4 == 4) = false := beq_eq_false_iff_ne.mpr c142
             have c142b1 : (a0_4 != 4) = true := bne_iff_ne.mpr c142
             by_cases c162 : a0_4 = 8
             ·
              rw [if_pos c162] at H
              have c162b0 : (a0_4 == 8) = true := beq_iff_eq.mpr c162
              have c162b1 : (a0_4 != 8) = false := bne_eq_false_iff_eq.mpr c162
              clear c162
              by_cases c163 : a0_5 ≥ 1
              ·
               rw [if_pos c163] at H
               have c163b0 : decide (1 ≤ a0_5) = true := decide_eq_true c163
               clear c163
               by_cases c164 : a0_5 ≤ 4096
               ·
                rw [if_pos c164] at H
                have c164b0 : decide (a0_5 ≤ 4096) = true := decide_eq_true c164
                clear c164
                by_cases c165 : t639 = true
                ·
                 subst c165
                 have H1 : ((sym_Check.f kj11 (⟨#[97]⟩ : ByteArray) a0_1 a0_2 a0_3 a0_4 a0_5 16).bind fun t662 => (if t662 = 0 then (some (a0_1 == 1)) else (some (!(a0_1 == 1))))) = some r := by rw [if_pos rfl] at H; exact H
                 clear H
                 have H := H1
                 clear H1
                 replace H := Option.bind_eq_some_iff.mp H
                 obtain ⟨t662, A1660, H⟩ := H
                 replace H : (if t662 = 0 then (some (a0_1 == 1)) else (some (!(a0_1 == 1)))) = some r := H
                 have A166 := Aside0.mk A1660
                 clear A1660
                 by_cases c167 : t662 = 0
                 ·
                  rw [if_pos c167] at H
                  have c167b0 : (t662 == 0) = true := beq_iff_eq.mpr c167
                  have c167b1 : (t662 != 0) = false := bne_eq_false_iff_eq.mpr c167
                  clear c167
                  obtain rfl := Option.some.inj H
                  have hcz168_0 : wc.cell? ⟨gb638, 0, none⟩ = some (.string (⟨#[97]⟩ : ByteArray)) := (blk_cell BK638.out 0).trans rfl
                  have hcz168_1 : wc.cell? ⟨gb638, 1, none⟩ = some (.int .u8 a0_1) := (blk_cell BK638.out 1).trans rfl
                  have hcz168_2 : wc.cell? ⟨gb638, 2, none⟩ = some (.bool a0_2) := (blk_cell BK638.out 2).trans rfl
                  have hcz168_3 : wc.cell? ⟨gb638, 3, none⟩ = some (.int .i64 a0_3) := (blk_cell BK638.out 3).trans rfl
                  have hcz168_4 : wc.cell? ⟨gb638, 4, none⟩ = some (.int .i64 a0_4) := (blk_cell BK638.out 4).trans rfl
                  have hcz168_5 : wc.cell? ⟨gb638, 5, none⟩ = some (.int .i64 a0_5) := (blk_cell BK638.out 5).trans rfl
                  have hfz168_0 := blk_frozen BK638.out 0
                  have hfz168_1 := blk_frozen BK638.out 1
                  have hfz168_2 := blk_frozen BK638.out 2
                  have hfz168_3 := blk_frozen BK638.out 3
                  have hfz168_4 := blk_frozen BK638.out 4
                  have hfz168_5 := blk_frozen BK638.out 5
                  go_wp2_with (first | (go_at_call 50; (with_reducible refine (sym_Check.calls kj11 (⟨#[97]⟩ : ByteArray) a0_1 a0_2 a0_3 a0_4 a0_5 16 t662 _ A166.out).mono ?_); rintro e w169 ⟨rfl, hb⟩; have n0_ := Aside0.mk (blk_below (g := gb638) (o := .cells #[.string (⟨#[97]⟩ : ByteArray), .int .u8 a0_1, .bool a0_2, .int .i64 a0_3, .int .i64 a0_4, .int .i64 a0_5] 64 (0, 0)) (by (with_reducible repeat (first | refine blk_drewN ?_ _ | refine blk_drew ?_ | refine blk_alloc ?_ _)); exact BK638.out) hb); have n1_ := Aside0.mk (below_step (by repeat (first | (with_reducible first | exact HB.out | apply below_alloc | apply pw_below_drewN | apply below_drew1 | refine below_set ?_ GE638.out) | exact HB.out)) hb); clear BK638; clear HB; have BK638 := n0_; have HB := n1_; clear n0_ n1_; (try clear hb); (try clear hb2); (try clear hk); (try clear hi)))
                  go_ret
                  exact ⟨by first | rfl | (simp [errW_none, errW_some] <;> rfl) | (simp [*, errW_none, errW_some] <;> rfl), by repeat (first | (with_reducible first | exact HB.out | apply below_alloc | apply pw_below_drewN | apply below_drew1 | refine below_set ?_ GE638.out) | exact HB.out)⟩
                 ·
                  rw [if_neg c167] at H
                  have c167b0 : (t662 == 0) = false := beq_eq_false_iff_ne.mpr c167
                  have c167b1 : (t662 != 0) = true := bne_iff_ne.mpr c167
                  obtain rfl := Option.some.inj H
                  have hcz170_0 : wc.cell? ⟨gb638, 0, none⟩ = some (.string (⟨#[97]⟩ : ByteArray)) := (blk_cell BK638.out 0).trans rfl
                  have hcz170_1 : wc.cell? ⟨gb638, 1, none⟩ = some (.int .u8 a0_1) := (blk_cell BK638.out 1).trans rfl
                  have hcz170_2 : wc.cell? ⟨gb638, 2, none⟩ = some (.bool a0_2) := (blk_cell BK638.out 2).trans rfl
                  have hcz170_3 : wc.cell? ⟨gb638, 3, none⟩ = some (.int .i64 a0_3) := (blk_cell BK638.out 3).trans rfl
                  have hcz170_4 : wc.cell? ⟨gb638, 4, none⟩ = some (.int .i64 a0_4) := (blk_cell BK638.out 4).trans rfl
                  have hcz170_5 : wc.cell? ⟨gb638, 5, none⟩ = some (.int .i64 a0_5) := (blk_cell BK638.out 5).trans rfl
                  have hfz170_0 := blk_frozen BK638.out 0
                  have hfz170_1 := blk_frozen BK638.out 1
                  have hfz170_2 := blk_frozen BK638.out 2
                  have hfz170_3 := blk_frozen BK638.out 3
                  have hfz170_4 := blk_frozen BK638.out 4
                  have hfz170_5 := blk_frozen BK638.out 5
                  go_wp2_with (first | (go_at_call 50; (with_reducible refine (sym_Check.calls kj11 (⟨#[97]⟩ : ByteArray) a0_1 a0_2 a0_3 a0_4 a0_5 16 t662 _ A166.out).mono ?_); rintro e w171 ⟨rfl, hb⟩; have n0_ := Aside0.mk (blk_below (g := gb638) (o := .cells #[.string (⟨#[97]⟩ : ByteArray), .int .u8 a0_1, .bool a0_2, .int .i64 a0_3, .int .i64 a0_4, .int .i64 a0_5] 64 (0, 0)) (by (with_reducible repeat (first | refine blk_drewN ?_ _ | refine blk_drew ?_ | refine blk_alloc ?_ _)); exact BK638.out) hb); have n1_ := Aside0.mk (below_step (by repeat (first | (with_reducible first | exact HB.out | apply below_alloc | apply pw_below_drewN | apply below_drew1 | refine below_set ?_ GE638.out) | exact HB.out)) hb); clear BK638; clear HB; have BK638 := n0_; have HB := n1_; clear n0_ n1_; (try clear hb); (try clear hb2); (try clear hk); (try clear hi)))
                  go_ret
                  exact ⟨by first | rfl | (simp [errW_none, errW_some] <;> rfl) | (simp [*, errW_none, errW_some] <;> rfl), by repeat (first | (with_reducible first | exact HB.out | apply below_alloc | apply pw_below_drewN | apply below_drew1 | refine below_set ?_ GE638.out) | exact HB.out)⟩
                ·
                 replace c165 := Bool.eq_false_iff.mpr c165
                 subst c165
                 have H1 : (none) = some r := by rw [if_neg (show ¬ (false = true) by decide)] at H; exact H
                 clear H
                 have H := H1
                 clear H1
                 exact absurd H (by simp)
               ·
                rw [if_neg c164] at H
                have c164b0 : decide (a0_5 ≤ 4096) = false := decide_eq_false c164
                clear c164
                by_cases c172 : t639 = true
                ·
                 subst c172
                 have H1 : ((sym_Check.f kj11 (⟨#[97]⟩ : ByteArray) a0_1 a0_2 a0_3 a0_4 a0_5 16).bind fun t663 => (if t663 = 0 then (none) else (some true))) = some r := by rw [if_pos rfl] at H; exact H
                 clear H
                 have H := H1
                 clear H1
                 replace H := Option.bind_eq_some_iff.mp H
                 obtain ⟨t663, A1730, H⟩ := H
                 replace H : (if t663 = 0 then (none) else (some true)) = some r := H
                 have A173 := Aside0.mk A1730
                 clear A1730
                 by_cases c174 : t663 = 0
                 ·
                  rw [if_pos c174] at H
                  exact absurd H (by simp)
                 ·
                  rw [if_neg c174] at H
                  have c174b0 : (t663 == 0) = false := beq_eq_false_iff_ne.mpr c174
                  have c174b1 : (t663 != 0) = true := bne_iff_ne.mpr c174
                  obtain rfl := Option.some.inj H
                  have hcz175_0 : wc.cell? ⟨gb638, 0, none⟩ = some (.string (⟨#[97]⟩ : ByteArray)) := (blk_cell BK638.out 0).trans rfl
                  have hcz175_1 : wc.cell? ⟨gb638, 1, none⟩ = some (.int .u8 a0_1) := (blk_cell BK638.out 1).trans rfl
                  have hcz175_2 : wc.cell? ⟨gb638, 2, none⟩ = some (.bool a0_2) := (blk_cell BK638.out 2).trans rfl
                  have hcz175_3 : wc.cell? ⟨gb638, 3, none⟩ = some (.int .i64 a0_3) := (blk_cell BK638.out 3).trans rfl
                  have hcz175_4 : wc.cell? ⟨gb638, 4, none⟩ = some (.int .i64 a0_4) := (blk_cell BK638.out 4).trans rfl
                  have hcz175_5 : wc.cell? ⟨gb638, 5, none⟩ = some (.int .i64 a0_5) := (blk_cell BK638.out 5).trans rfl
                  have hfz175_0 := blk_frozen BK638.out 0
                  have hfz175_1 := blk_frozen BK638.out 1
                  have hfz175_2 := blk_frozen BK638.out 2
                  have hfz175_3 := blk_frozen BK638.out 3
                  have hfz175_4 := blk_frozen BK638.out 4
                  have hfz175_5 := blk_frozen BK638.out 5
                  go_wp2_with (first | (go_at_call 50; (with_reducible refine (sym_Check.calls kj11 (⟨#[97]⟩ : ByteArray) a0_1 a0_2 a0_3 a0_4 a0_5 16 t663 _ A173.out).mono ?_); rintro e w176 ⟨rfl, hb⟩; have n0_ := Aside0.mk (blk_below (g := gb638) (o := .cells #[.string (⟨#[97]⟩ : ByteArray), .int .u8 a0_1, .bool a0_2, .int .i64 a0_3, .int .i64 a0_4, .int .i64 a0_5] 64 (0, 0)) (by (with_reducible repeat (first | refine blk_drewN ?_ _ | refine blk_drew ?_ | refine blk_alloc ?_ _)); exact BK638.out) hb); have n1_ := Aside0.mk (below_step (by repeat (first | (with_reducible first | exact HB.out | apply below_alloc | apply pw_below_drewN | apply below_drew1 | refine below_set ?_ GE638.out) | exact HB.out)) hb); clear BK638; clear HB; have BK638 := n0_; have HB := n1_; clear n0_ n1_; (try clear hb); (try clear hb2); (try clear hk); (try clear hi)))
                  go_ret
                  exact ⟨by first | rfl | (simp [errW_none, errW_some] <;> rfl) | (simp [*, errW_none, errW_some] <;> rfl), by repeat (first | (with_reducible first | exact HB.out | apply below_alloc | apply pw_below_drewN | apply below_drew1 | refine below_set ?_ GE638.out) | exact HB.out)⟩
                ·
                 replace c172 := Bool.eq_false_iff.mpr c172
                 subst c172
                 have H1 : (none) = some r := by rw [if_neg (show ¬ (false = true) by decide)] at H; exact H
                 clear H
                 have H := H1
                 clear H1
                 exact absurd H (by simp)
              ·
               rw [if_neg c163] at H
               have c163b0 : decide (1 ≤ a0_5) = false := decide_eq_false c163
               clear c163
               by_cases c177 : t639 = true
               ·
                subst c177
                have H1 : ((sym_Check.f kj11 (⟨#[97]⟩ : ByteArray) a0_1 a0_2 a0_3 a0_4 a0_5 16).bind fun t664 => (if t664 = 0 then (none) else (some true))) = some r := by rw [if_pos rfl] at H; exact H
                clear H
                have H := H1
                clear H1
                replace H := Option.bind_eq_some_iff.mp H
                obtain ⟨t664, A1780, H⟩ := H
                replace H : (if t664 = 0 then (none) else (some true)) = some r := H
                have A178 := Aside0.mk A1780
                clear A1780
                by_cases c179 : t664 = 0
                ·
                 rw [if_pos c179] at H
                 exact absurd H (by simp)
                ·
                 rw [if_neg c179] at H
                 have c179b0 : (t664 == 0) = false := beq_eq_false_iff_ne.mpr c179
                 have c179b1 : (t664 != 0) = true := bne_iff_ne.mpr c179
                 obtain rfl := Option.some.inj H
                 have hcz180_0 : wc.cell? ⟨gb638, 0, none⟩ = some (.string (⟨#[97]⟩ : ByteArray)) := (blk_cell BK638.out 0).trans rfl
                 have hcz180_1 : wc.cell? ⟨gb638, 1, none⟩ = some (.int .u8 a0_1) := (blk_cell BK638.out 1).trans rfl
                 have hcz180_2 : wc.cell? ⟨gb638, 2, none⟩ = some (.bool a0_2) := (blk_cell BK638.out 2).trans rfl
                 have hcz180_3 : wc.cell? ⟨gb638, 3, none⟩ = some (.int .i64 a0_3) := (blk_cell BK638.out 3).trans rfl
                 have hcz180_4 : wc.cell? ⟨gb638, 4, none⟩ = some (.int .i64 a0_4) := (blk_cell BK638.out 4).trans rfl
                 have hcz180_5 : wc.cell? ⟨gb638, 5, none⟩ = some (.int .i64 a0_5) := (blk_cell BK638.out 5).trans rfl
                 have hfz180_0 := blk_frozen BK638.out 0
                 have hfz180_1 := blk_frozen BK638.out 1
                 have hfz180_2 := blk_frozen BK638.out 2
                 have hfz180_3 := blk_frozen BK638.out 3
                 have hfz180_4 := blk_frozen BK638.out 4
                 have hfz180_5 := blk_frozen BK638.out 5
                 go_wp2_with (first | (go_at_call 50; (with_reducible refine (sym_Check.calls kj11 (⟨#[97]⟩ : ByteArray) a0_1 a0_2 a0_3 a0_4 a0_5 16 t664 _ A178.out).mono ?_); rintro e w181 ⟨rfl, hb⟩; have n0_ := Aside0.mk (blk_below (g := gb638) (o := .cells #[.string (⟨#[97]⟩ : ByteArray), .int .u8 a0_1, .bool a0_2, .int .i64 a0_3, .int .i64 a0_4, .int .i64 a0_5] 64 (0, 0)) (by (with_reducible repeat (first | refine blk_drewN ?_ _ | refine blk_drew ?_ | refine blk_alloc ?_ _)); exact BK638.out) hb); have n1_ := Aside0.mk (below_step (by repeat (first | (with_reducible first | exact HB.out | apply below_alloc | apply pw_below_drewN | apply below_drew1 | refine below_set ?_ GE638.out) | exact HB.out)) hb); clear BK638; clear HB; have BK638 := n0_; have HB := n1_; clear n0_ n1_; (try clear hb); (try clear hb2); (try clear hk); (try clear hi)))
                 go_ret
                 exact ⟨by first | rfl | (simp [errW_none, errW_some] <;> rfl) | (simp [*, errW_none, errW_some] <;> rfl), by repeat (first | (with_reducible first | exact HB.out | apply below_alloc | apply pw_below_drewN | apply below_drew1 | refine below_set ?_ GE638.out) | exact HB.out)⟩
               ·
                replace c177 := Bool.eq_false_iff.mpr c177
                subst c177
                have H1 : (none) = some r := by rw [if_neg (show ¬ (false = true) by decide)] at H; exact H
                clear H
                have H := H1
                clear H1
                exact absurd H (by simp)
             ·
              rw [if_neg c162] at H
              have c162b0 : (a0_4 == 8) = false := beq_eq_false_iff_ne.mpr c162
              have c162b1 : (a0_4 != 8) = true := bne_iff_ne.mpr c162
              by_cases c182 : a0_4 = 16
              ·
               rw [if_pos c182] at H
               have c182b0 : (a0_4 == 16) = true := beq_iff_eq.mpr c182
               have c182b1 : (a0_4 != 16) = false := bne_eq_false_iff_eq.mpr c182
               clear c182
               by_cases c183 : a0_5 ≥ 1
               ·
                rw [if_pos c183] at H
                have c183b0 : decide (1 ≤ a0_5) = true := decide_eq_true c183
                clear c183
                by_cases c184 : a0_5 ≤ 4096
                ·
                 rw [if_pos c184] at H
                 have c184b0 : decide (a0_5 ≤ 4096) = true := decide_eq_true c184
                 clear c184
                 by_cases c185 : t639 = true
                 ·
                  subst c185
                  have H1 : ((sym_Check.f kj11 (⟨#[97]⟩ : ByteArray) a0_1 a0_2 a0_3 a0_4 a0_5 16).bind fun t665 => (if t665 = 0 then (some (a0_1 == 1)) else (some (!(a0_1 == 1))))) = some r := by rw [if_pos rfl] at H; exact H
                  clear H
                  have H := H1
                  clear H1
                  replace H := Option.bind_eq_some_iff.mp H
                  obtain ⟨t665, A1860, H⟩ := H
                  replace H : (if t665 = 0 then (some (a0_1 == 1)) else (some (!(a0_1 == 1)))) = some r := H
                  have A186 := Aside0.mk A1860
                  clear A1860
                  by_cases c187 : t665 = 0
                  ·
                   rw [if_pos c187] at H
                   have c187b0 : (t665 == 0) = true := beq_iff_eq.mpr c187
                   have c187b1 : (t665 != 0) = false := bne_eq_false_iff_eq.mpr c187
                   clear c187
                   obtain rfl := Option.some.inj H
                   have hcz188_0 : wc.cell? ⟨gb638, 0, none⟩ = some (.string (⟨#[97]⟩ : ByteArray)) := (blk_cell BK638.out 0).trans rfl
                   have hcz188_1 : wc.cell? ⟨gb638, 1, none⟩ = some (.int .u8 a0_1) := (blk_cell BK638.out 1).trans rfl
                   have hcz188_2 : wc.cell? ⟨gb638, 2, none⟩ = some (.bool a0_2) := (blk_cell BK638.out 2).trans rfl
                   have hcz188_3 : wc.cell? ⟨gb638, 3, none⟩ = some (.int .i64 a0_3) := (blk_cell BK638.out 3).trans rfl
                   have hcz188_4 : wc.cell? ⟨gb638, 4, none⟩ = some (.int .i64 a0_4) := (blk_cell BK638.out 4).trans rfl
                   have hcz188_5 : wc.cell? ⟨gb638, 5, none⟩ = some (.int .i64 a0_5) := (blk_cell BK638.out 5).trans rfl
                   have hfz188_0 := blk_frozen BK638.out 0
                   have hfz188_1 := blk_frozen BK638.out 1
                   have hfz188_2 := blk_frozen BK638.out 2
                   have hfz188_3 := blk_frozen BK638.out 3
                   have hfz188_4 := blk_frozen BK638.out 4
                   have hfz188_5 := blk_frozen BK638.out 5
                   go_wp2_with (first | (go_at_call 50; (with_reducible refine (sym_Check.calls kj11 (⟨#[97]⟩ : ByteArray) a0_1 a0_2 a0_3 a0_4 a0_5 16 t665 _ A186.out).mono ?_); rintro e w189 ⟨rfl, hb⟩; have n0_ := Aside0.mk (blk_below (g := gb638) (o := .cells #[.string (⟨#[97]⟩ : ByteArray), .int .u8 a0_1, .bool a0_2, .int .i64 a0_3, .int .i64 a0_4, .int .i64 a0_5] 64 (0, 0)) (by (with_reducible repeat (first | refine blk_drewN ?_ _ | refine blk_drew ?_ | refine blk_alloc ?_ _)); exact BK638.out) hb); have n1_ := Aside0.mk (below_step (by repeat (first | (with_reducible first | exact HB.out | apply below_alloc | apply pw_below_drewN | apply below_drew1 | refine below_set ?_ GE638.out) | exact HB.out)) hb); clear BK638; clear HB; have BK638 := n0_; have HB := n1_; clear n0_ n1_; (try clear hb); (try clear hb2); (try clear hk); (try clear hi)))
                   go_ret
                   exact ⟨by first | rfl | (simp [errW_none, errW_some] <;> rfl) | (simp [*, errW_none, errW_some] <;> rfl), by repeat (first | (with_reducible first | exact HB.out | apply below_alloc | apply pw_below_drewN | apply below_drew1 | refine below_set ?_ GE638.out) | exact HB.out)⟩
                  ·
                   rw [if_neg c187] at H
                   have c187b0 : (t665 == 0) = false := beq_eq_false_iff_ne.mpr c187
                   have c187b1 : (t665 != 0) = true := bne_iff_ne.mpr c187
                   obtain rfl := Option.some.inj H
                   have hcz190_0 : wc.cell? ⟨gb638, 0, none⟩ = some (.string (⟨#[97]⟩ : ByteArray)) := (blk_cell BK638.out 0).trans rfl
                   have hcz190_1 : wc.cell? ⟨gb638, 1, none⟩ = some (.int .u8 a0_1) := (blk_cell BK638.out 1).trans rfl
                   have hcz190_2 : wc.cell? ⟨gb638, 2, none⟩ = some (.bool a0_2) := (blk_cell BK638.out 2).trans rfl
                   have hcz190_3 : wc.cell? ⟨gb638, 3, none⟩ = some (.int .i64 a0_3) := (blk_cell BK638.out 3).trans rfl
                   have hcz190_4 : wc.cell? ⟨gb638, 4, none⟩ = some (.int .i64 a0_4) := (blk_cell BK638.out 4).trans rfl
                   have hcz190_5 : wc.cell? ⟨gb638, 5, none⟩ = some (.int .i64 a0_5) := (blk_cell BK638.out 5).trans rfl
                   have hfz190_0 := blk_frozen BK638.out 0
                   have hfz190_1 := blk_frozen BK638.out 1
                   have hfz190_2 := blk_frozen BK638.out 2
                   have hfz190_3 := blk_frozen BK638.out 3
                   have hfz190_4 := blk_frozen BK638.out 4
                   have hfz190_5 := blk_frozen BK638.out 5
                   go_wp2_with (first | (go_at_call 50; (with_reducible refine (sym_Check.calls kj11 (⟨#[97]⟩ : ByteArray) a0_1 a0_2 a0_3 a0_4 a0_5 16 t665 _ A186.out).mono ?_); rintro e w191 ⟨rfl, hb⟩; have n0_ := Aside0.mk (blk_below (g := gb638) (o := .cells #[.string (⟨#[97]⟩ : ByteArray), .int .u8 a0_1, .bool a0_2, .int .i64 a0_3, .int .i64 a0_4, .int .i64 a0_5] 64 (0, 0)) (by (with_reducible repeat (first | refine blk_drewN ?_ _ | refine blk_drew ?_ | refine blk_alloc ?_ _)); exact BK638.out) hb); have n1_ := Aside0.mk (below_step (by repeat (first | (with_reducible first | exact HB.out | apply below_alloc | apply pw_below_drewN | apply below_drew1 | refine below_set ?_ GE638.out) | exact HB.out)) hb); clear BK638; clear HB; have BK638 := n0_; have HB := n1_; clear n0_ n1_; (try clear hb); (try clear hb2); (try clear hk); (try clear hi)))
                   go_ret
                   exact ⟨by first | rfl | (simp [errW_none, errW_some] <;> rfl) | (simp [*, errW_none, errW_some] <;> rfl), by repeat (first | (with_reducible first | exact HB.out | apply below_alloc | apply pw_below_drewN | apply below_drew1 | refine below_set ?_ GE638.out) | exact HB.out)⟩
                 ·
                  replace c185 := Bool.eq_false_iff.mpr c185
                  subst c185
                  have H1 : (none) = some r := by rw [if_neg (show ¬ (false = true) by decide)] at H; exact H
                  clear H
                  have H := H1
                  clear H1
                  exact absurd H (by simp)
                ·
                 rw [if_neg c184] at H
                 have c184b0 : decide (a0_5 ≤ 4096) = false := decide_eq_false c184
                 clear c184
                 by_cases c192 : t639 = true
                 ·
                  subst c192
                  have H1 : ((sym_Check.f kj11 (⟨#[97]⟩ : ByteArray) a0_1 a0_2 a0_3 a0_4 a0_5 16).bind fun t666 => (if t666 = 0 then (none) else (some true))) = some r := by rw [if_pos rfl] at H; exact H
                  clear H
                  have H := H1
                  clear H1
                  replace H := Option.bind_eq_some_iff.mp H
                  obtain ⟨t666, A1930, H⟩ := H
                  replace H : (if t666 = 0 then (none) else (some true)) = some r := H
                  have A193 := Aside0.mk A1930
                  clear A1930
                  by_cases c194 : t666 = 0
                  ·
                   rw [if_pos c194] at H
                   exact absurd H (by simp)
                  ·
                   rw [if_neg c194] at H
                   have c194b0 : (t666 == 0) = false := beq_eq_false_iff_ne.mpr c194
                   have c194b1 : (t666 != 0) = true := bne_iff_ne.mpr c194
                   obtain rfl := Option.some.inj H
                   have hcz195_0 : wc.cell? ⟨gb638, 0, none⟩ = some (.string (⟨#[97]⟩ : ByteArray)) := (blk_cell BK638.out 0).trans rfl
                   have hcz195_1 : wc.cell? ⟨gb638, 1, none⟩ = some (.int .u8 a0_1) := (blk_cell BK638.out 1).trans rfl
                   have hcz195_2 : wc.cell? ⟨gb638, 2, none⟩ = some (.bool a0_2) := (blk_cell BK638.out 2).trans rfl
                   have hcz195_3 : wc.cell? ⟨gb638, 3, none⟩ = some (.int .i64 a0_3) := (blk_cell BK638.out 3).trans rfl
                   have hcz195_4 : wc.cell? ⟨gb638, 4, none⟩ = some (.int .i64 a0_4) := (blk_cell BK638.out 4).trans rfl
                   have hcz195_5 : wc.cell? ⟨gb638, 5, none⟩ = some (.int .i64 a0_5) := (blk_cell BK638.out 5).trans rfl
                   have hfz195_0 := blk_frozen BK638.out 0
                   have hfz195_1 := blk_frozen BK638.out 1
                   have hfz195_2 := blk_frozen BK638.out 2
                   have hfz195_3 := blk_frozen BK638.out 3
                   have hfz195_4 := blk_frozen BK638.out 4
                   have hfz195_5 := blk_frozen BK638.out 5
                   go_wp2_with (first | (go_at_call 50; (with_reducible refine (sym_Check.calls kj11 (⟨#[97]⟩ : ByteArray) a0_1 a0_2 a0_3 a0_4 a0_5 16 t666 _ A193.out).mono ?_); rintro e w196 ⟨rfl, hb⟩; have n0_ := Aside0.mk (blk_below (g := gb638) (o := .cells #[.string (⟨#[97]⟩ : ByteArray), .int .u8 a0_1, .bool a0_2, .int .i64 a0_3, .int .i64 a0_4, .int .i64 a0_5] 64 (0, 0)) (by (with_reducible repeat (first | refine blk_drewN ?_ _ | refine blk_drew ?_ | refine blk_alloc ?_ _)); exact BK638.out) hb); have n1_ := Aside0.mk (below_step (by repeat (first | (with_reducible first | exact HB.out | apply below_alloc | apply pw_below_drewN | apply below_drew1 | refine below_set ?_ GE638.out) | exact HB.out)) hb); clear BK638; clear HB; have BK638 := n0_; have HB := n1_; clear n0_ n1_; (try clear hb); (try clear hb2); (try clear hk); (try clear hi)))
                   go_ret
                   exact ⟨by first | rfl | (simp [errW_none, errW_some] <;> rfl) | (simp [*, errW_none, errW_some] <;> rfl), by repeat (first | (with_reducible first | exact HB.out | apply below_alloc | apply pw_below_drewN | apply below_drew1 | refine below_set ?_ GE638.out) | exact HB.out)⟩
                 ·
                  replace c192 := Bool.eq_false_iff.mpr c192
                  subst c192
                  have H1 : (none) = some r := by rw [if_neg (show ¬ (false = true) by decide)] at H; exact H
                  clear H
                  have H := H1
                  clear H1
                  exact absurd H (by simp)
               ·
                rw [if_neg c183] at H
                have c183b0 : decide (1 ≤ a0_5) = false := decide_eq_false c183
                clear c183
                by_cases c197 : t639 = true
                ·
                 subst c197
                 have H1 : ((sym_Check.f kj11 (⟨#[97]⟩ : ByteArray) a0_1 a0_2 a0_3 a0_4 a0_5 16).bind fun t667 => (if t667 = 0 then (none) else (some true))) = some r := by rw [if_pos rfl] at H; exact H
                 clear H
                 have H := H1
                 clear H1
                 replace H := Option.bind_eq_some_iff.mp H
                 obtain ⟨t667, A1980, H⟩ := H
                 replace H : (if t667 = 0 then (none) else (some true)) = some r := H
                 have A198 := Aside0.mk A1980
                 clear A1980
                 by_cases c199 : t667 = 0
                 ·
                  rw [if_pos c199] at H
                  exact absurd H (by simp)
                 ·
                  rw [if_neg c199] at H
                  have c199b0 : (t667 == 0) = false := beq_eq_false_iff_ne.mpr c199
                  have c199b1 : (t667 != 0) = true := bne_iff_ne.mpr c199
                  obtain rfl := Option.some.inj H
                  have hcz200_0 : wc.cell? ⟨gb638, 0, none⟩ = some (.string (⟨#[97]⟩ : ByteArray)) := (blk_cell BK638.out 0).trans rfl
                  have hcz200_1 : wc.cell? ⟨gb638, 1, none⟩ = some (.int .u8 a0_1) := (blk_cell BK638.out 1).trans rfl
                  have hcz200_2 : wc.cell? ⟨gb638, 2, none⟩ = some (.bool a0_2) := (blk_cell BK638.out 2).trans rfl
                  have hcz200_3 : wc.cell? ⟨gb638, 3, none⟩ = some (.int .i64 a0_3) := (blk_cell BK638.out 3).trans rfl
                  have hcz200_4 : wc.cell? ⟨gb638, 4, none⟩ = some (.int .i64 a0_4) := (blk_cell BK638.out 4).trans rfl
                  have hcz200_5 : wc.cell? ⟨gb638, 5, none⟩ = some (.int .i64 a0_5) := (blk_cell BK638.out 5).trans rfl
                  have hfz200_0 := blk_frozen BK638.out 0
                  have hfz200_1 := blk_frozen BK638.out 1
                  have hfz200_2 := blk_frozen BK638.out 2
                  have hfz200_3 := blk_frozen BK638.out 3
                  have hfz200_4 := blk_frozen BK638.out 4
                  have hfz200_5 := blk_frozen BK638.out 5
                  go_wp2_with (first | (go_at_call 50; (with_reducible refine (sym_Check.calls kj11 (⟨#[97]⟩ : ByteArray) a0_1 a0_2 a0_3 a0_4 a0_5 16 t667 _ A198.out).mono ?_); rintro e w201 ⟨rfl, hb⟩; have n0_ := Aside0.mk (blk_below (g := gb638) (o := .cells #[.string (⟨#[97]⟩ : ByteArray), .int .u8 a0_1, .bool a0_2, .int .i64 a0_3, .int .i64 a0_4, .int .i64 a0_5] 64 (0, 0)) (by (with_reducible repeat (first | refine blk_drewN ?_ _ | refine blk_drew ?_ | refine blk_alloc ?_ _)); exact BK638.out) hb); have n1_ := Aside0.mk (below_step (by repeat (first | (with_reducible first | exact HB.out | apply below_alloc | apply pw_below_drewN | apply below_drew1 | refine below_set ?_ GE638.out) | exact HB.out)) hb); clear BK638; clear HB; have BK638 := n0_; have HB := n1_; clear n0_ n1_; (try clear hb); (try clear hb2); (try clear hk); (try clear hi)))
                  go_ret
                  exact ⟨by first | rfl | (simp [errW_none, errW_some] <;> rfl) | (simp [*, errW_none, errW_some] <;> rfl), by repeat (first | (with_reducible first | exact HB.out | apply below_alloc | apply pw_below_drewN | apply below_drew1 | refine below_set ?_ GE638.out) | exact HB.out)⟩
                ·
                 replace c197 := Bool.eq_false_iff.mpr c197
                 subst c197
                 have H1 : (none) = some r := by rw [if_neg (show ¬ (false = true) by decide)] at H; exact H
                 clear H
                 have H := H1
                 clear H1
                 exact absurd H (by simp)
              ·
               rw [if_neg c182] at H
               have c182b0 : (a0_4 == 16) = false := beq_eq_false_iff_ne.mpr c182
               have c182b1 : (a0_4 != 16) = true := bne_iff_ne.mpr c182
               by_cases c202 : a0_4 = 32
               ·
                rw [if_pos c202] at H
                have c202b0 : (a0_4 == 32) = true := beq_iff_eq.mpr c202
                have c202b1 : (a0_4 != 32) = false := bne_eq_false_iff_eq.mpr c202
                clear c202
                by_cases c203 : a0_5 ≥ 1
                ·
                 rw [if_pos c203] at H
                 have c203b0 : decide (1 ≤ a0_5) = true := decide_eq_true c203
                 clear c203
                 by_cases c204 : a0_5 ≤ 4096
                 ·
                  rw [if_pos c204] at H
                  have c204b0 : decide (a0_5 ≤ 4096) = true := decide_eq_true c204
                  clear c204
                  by_cases c205 : t639 = true
                  ·
                   subst c205
                   have H1 : ((sym_Check.f kj11 (⟨#[97]⟩ : ByteArray) a0_1 a0_2 a0_3 a0_4 a0_5 16).bind fun t668 => (if t668 = 0 then (some (a0_1 == 1)) else (some (!(a0_1 == 1))))) = some r := by rw [if_pos rfl] at H; exact H
                   clear H
                   have H := H1
                   clear H1
                   replace H := Option.bind_eq_some_iff.mp H
                   obtain ⟨t668, A2060, H⟩ := H
                   replace H : (if t668 = 0 then (some (a0_1 == 1)) else (some (!(a0_1 == 1)))) = some r := H
                   have A206 := Aside0.mk A2060
                   clear A2060
                   by_cases c207 : t668 = 0
                   ·
                    rw [if_pos c207] at H
                    have c207b0 : (t668 == 0) = true := beq_iff_eq.mpr c207
                    have c207b1 : (t668 != 0) = false := bne_eq_false_iff_eq.mpr c207
                    clear c207
                    obtain rfl := Option.some.inj H
                    have hcz208_0 : wc.cell? ⟨gb638, 0, none⟩ = some (.string (⟨#[97]⟩ : ByteArray)) := (blk_cell BK638.out 0).trans rfl
                    have hcz208_1 : wc.cell? ⟨gb638, 1, none⟩ = some (.int .u8 a0_1) := (blk_cell BK638.out 1).trans rfl
                    have hcz208_2 : wc.cell? ⟨gb638, 2, none⟩ = some (.bool a0_2) := (blk_cell BK638.out 2).trans rfl
                    have hcz208_3 : wc.cell? ⟨gb638, 3, none⟩ = some (.int .i64 a0_3) := (blk_cell BK638.out 3).trans rfl
                    have hcz208_4 : wc.cell? ⟨gb638, 4, none⟩ = some (.int .i64 a0_4) := (blk_cell BK638.out 4).trans rfl
                    have hcz208_5 : wc.cell? ⟨gb638, 5, none⟩ = some (.int .i64 a0_5) := (blk_cell BK638.out 5).trans rfl
                    have hfz208_0 := blk_frozen BK638.out 0
                    have hfz208_1 := blk_frozen BK638.out 1
                    have hfz208_2 := blk_frozen BK638.out 2
                    have hfz208_3 := blk_frozen BK638.out 3
                    have hfz208_4 := blk_frozen BK638.out 4
                    have hfz208_5 := blk_frozen BK638.out 5
                    go_wp2_with (first | (go_at_call 50; (with_reducible refine (sym_Check.calls kj11 (⟨#[97]⟩ : ByteArray) a0_1 a0_2 a0_3 a0_4 a0_5 16 t668 _ A206.out).mono ?_); rintro e w209 ⟨rfl, hb⟩; have n0_ := Aside0.mk (blk_below (g := gb638) (o := .cells #[.string (⟨#[97]⟩ : ByteArray), .int .u8 a0_1, .bool a0_2, .int .i64 a0_3, .int .i64 a0_4, .int .i64 a0_5] 64 (0, 0)) (by (with_reducible repeat (first | refine blk_drewN ?_ _ | refine blk_drew ?_ | refine blk_alloc ?_ _)); exact BK638.out) hb); have n1_ := Aside0.mk (below_step (by repeat (first | (with_reducible first | exact HB.out | apply below_alloc | apply pw_below_drewN | apply below_drew1 | refine below_set ?_ GE638.out) | exact HB.out)) hb); clear BK638; clear HB; have BK638 := n0_; have HB := n1_; clear n0_ n1_; (try clear hb); (try clear hb2); (try clear hk); (try clear hi)))
                    go_ret
                    exact ⟨by first | rfl | (simp [errW_none, errW_some] <;> rfl) | (simp [*, errW_none, errW_some] <;> rfl), by repeat (first | (with_reducible first | exact HB.out | apply below_alloc | apply pw_below_drewN | apply below_drew1 | refine below_set ?_ GE638.out) | exact HB.out)⟩
                   ·
                    rw [if_neg c207] at H
                    have c207b0 : (t668 == 0) = false := beq_eq_false_iff_ne.mpr c207
                    have c207b1 : (t668 != 0) = true := bne_iff_ne.mpr c207
                    obtain rfl := Option.some.inj H
                    have hcz210_0 : wc.cell? ⟨gb638, 0, none⟩ = some (.string (⟨#[97]⟩ : ByteArray)) := (blk_cell BK638.out 0).trans rfl
                    have hcz210_1 : wc.cell? ⟨gb638, 1, none⟩ = some (.int .u8 a0_1) := (blk_cell BK638.out 1).trans rfl
                    have hcz210_2 : wc.cell? ⟨gb638, 2, none⟩ = some (.bool a0_2) := (blk_cell BK638.out 2).trans rfl
                    have hcz210_3 : wc.cell? ⟨gb638, 3, none⟩ = some (.int .i64 a0_3) := (blk_cell BK638.out 3).trans rfl
                    have hcz210_4 : wc.cell? ⟨gb638, 4, none⟩ = some (.int .i64 a0_4) := (blk_cell BK638.out 4).trans rfl
                    have hcz210_5 : wc.cell? ⟨gb638, 5, none⟩ = some (.int .i64 a0_5) := (blk_cell BK638.out 5).trans rfl
                    have hfz210_0 := blk_frozen BK638.out 0
                    have hfz210_1 := blk_frozen BK638.out 1
                    have hfz210_2 := blk_frozen BK638.out 2
                    have hfz210_3 := blk_frozen BK638.out 3
                    have hfz210_4 := blk_frozen BK638.out 4
                    have hfz210_5 := blk_frozen BK638.out 5
                    go_wp2_with (first | (go_at_call 50; (with_reducible refine (sym_Check.calls kj11 (⟨#[97]⟩ : ByteArray) a0_1 a0_2 a0_3 a0_4 a0_5 16 t668 _ A206.out).mono ?_); rintro e w211 ⟨rfl, hb⟩; have n0_ := Aside0.mk (blk_below (g := gb638) (o := .cells #[.string (⟨#[97]⟩ : ByteArray), .int .u8 a0_1, .bool a0_2, .int .i64 a0_3, .int .i64 a0_4, .int .i64 a0_5] 64 (0, 0)) (by (with_reducible repeat (first | refine blk_drewN ?_ _ | refine blk_drew ?_ | refine blk_alloc ?_ _)); exact BK638.out) hb); have n1_ := Aside0.mk (below_step (by repeat (first | (with_reducible first | exact HB.out | apply below_alloc | apply pw_below_drewN | apply below_drew1 | refine below_set ?_ GE638.out) | exact HB.out)) hb); clear BK638; clear HB; have BK638 := n0_; have HB := n1_; clear n0_ n1_; (try clear hb); (try clear hb2); (try clear hk); (try clear hi)))
                    go_ret
                    exact ⟨by first | rfl | (simp [errW_none, errW_some] <;> rfl) | (simp [*, errW_none, errW_some] <;> rfl), by repeat (first | (with_reducible first | exact HB.out | apply below_alloc | apply pw_below_drewN | apply below_drew1 | refine below_set ?_ GE638.out) | exact HB.out)⟩
                  ·
                   replace c205 := Bool.eq_false_iff.mpr c205
                   subst c205
                   have H1 : (none) = some r := by rw [if_neg (show ¬ (false = true) by decide)] at H; exact H
                   clear H
                   have H := H1
                   clear H1
                   exact absurd H (by simp)
                 ·
                  rw [if_neg c204] at H
                  have c204b0 : decide (a0_5 ≤ 4096) = false := decide_eq_false c204
                  clear c204
                  by_cases c212 : t639 = true
                  ·
                   subst c212
                   have H1 : ((sym_Check.f kj11 (⟨#[97]⟩ : ByteArray) a0_1 a0_2 a0_3 a0_4 a0_5 16).bind fun t669 => (if t669 = 0 then (none) else (some true))) = some r := by rw [if_pos rfl] at H; exact H
                   clear H
                   have H := H1
                   clear H1
                   replace H := Option.bind_eq_some_iff.mp H
                   obtain ⟨t669, A2130, H⟩ := H
                   replace H : (if t669 = 0 then (none) else (some true)) = some r := H
                   have A213 := Aside0.mk A2130
                   clear A2130
                   by_cases c214 : t669 = 0
                   ·
                    rw [if_pos c214] at H
                    exact absurd H (by simp)
                   ·
                    rw [if_neg c214] at H
                    have c214b0 : (t669 == 0) = false := beq_eq_false_iff_ne.mpr c214
                    have c214b1 : (t669 != 0) = true := bne_iff_ne.mpr c214
                    obtain rfl := Option.some.inj H
                    have hcz215_0 : wc.cell? ⟨gb638, 0, none⟩ = some (.string (⟨#[97]⟩ : ByteArray)) := (blk_cell BK638.out 0).trans rfl
                    have hcz215_1 : wc.cell? ⟨gb638, 1, none⟩ = some (.int .u8 a0_1) := (blk_cell BK638.out 1).trans rfl
                    have hcz215_2 : wc.cell? ⟨gb638, 2, none⟩ = some (.bool a0_2) := (blk_cell BK638.out 2).trans rfl
                    have hcz215_3 : wc.cell? ⟨gb638, 3, none⟩ = some (.int .i64 a0_3) := (blk_cell BK638.out 3).trans rfl
                    have hcz215_4 : wc.cell? ⟨gb638, 4, none⟩ = some (.int .i64 a0_4) := (blk_cell BK638.out 4).trans rfl
                    have hcz215_5 : wc.cell? ⟨gb638, 5, none⟩ = some (.int .i64 a0_5) := (blk_cell BK638.out 5).trans rfl
                    have hfz215_0 := blk_frozen BK638.out 0
                    have hfz215_1 := blk_frozen BK638.out 1
                    have hfz215_2 := blk_frozen BK638.out 2
                    have hfz215_3 := blk_frozen BK638.out 3
                    have hfz215_4 := blk_frozen BK638.out 4
                    have hfz215_5 := blk_frozen BK638.out 5
                    go_wp2_with (first | (go_at_call 50; (with_reducible refine (sym_Check.calls kj11 (⟨#[97]⟩ : ByteArray) a0_1 a0_2 a0_3 a0_4 a0_5 16 t669 _ A213.out).mono ?_); rintro e w216 ⟨rfl, hb⟩; have n0_ := Aside0.mk (blk_below (g := gb638) (o := .cells #[.string (⟨#[97]⟩ : ByteArray), .int .u8 a0_1, .bool a0_2, .int .i64 a0_3, .int .i64 a0_4, .int .i64 a0_5] 64 (0, 0)) (by (with_reducible repeat (first | refine blk_drewN ?_ _ | refine blk_drew ?_ | refine blk_alloc ?_ _)); exact BK638.out) hb); have n1_ := Aside0.mk (below_step (by repeat (first | (with_reducible first | exact HB.out | apply below_alloc | apply pw_below_drewN | apply below_drew1 | refine below_set ?_ GE638.out) | exact HB.out)) hb); clear BK638; clear HB; have BK638 := n0_; have HB := n1_; clear n0_ n1_; (try clear hb); (try clear hb2); (try clear hk); (try clear hi)))
                    go_ret
                    exact ⟨by first | rfl | (simp [errW_none, errW_some] <;> rfl) | (simp [*, errW_none, errW_some] <;> rfl), by repeat (first | (with_reducible first | exact HB.out | apply below_alloc | apply pw_below_drewN | apply below_drew1 | refine below_set ?_ GE638.out) | exact HB.out)⟩
                  ·
                   replace c212 := Bool.eq_false_iff.mpr c212
                   subst c212
                   have H1 : (none) = some r := by rw [if_neg (show ¬ (false = true) by decide)] at H; exact H
                   clear H
                   have H := H1
                   clear H1
                   exact absurd H (by simp)
                ·
                 rw [if_neg c203] at H
                 have c203b0 : decide (1 ≤ a0_5) = false := decide_eq_false c203
                 clear c203
                 by_cases c217 : t639 = true
                 ·
                  subst c217
                  have H1 : ((sym_Check.f kj11 (⟨#[97]⟩ : ByteArray) a0_1 a0_2 a0_3 a0_4 a0_5 16).bind fun t670 => (if t670 = 0 then (none) else (some true))) = some r := by rw [if_pos rfl] at H; exact H
                  clear H
                  have H := H1
                  clear H1
                  replace H := Option.bind_eq_some_iff.mp H
                  obtain ⟨t670, A2180, H⟩ := H
                  replace H : (if t670 = 0 then (none) else (some true)) = some r := H
                  have A218 := Aside0.mk A2180
                  clear A2180
                  by_cases c219 : t670 = 0
                  ·
                   rw [if_pos c219] at H
                   exact absurd H (by simp)
                  ·
                   rw [if_neg c219] at H
                   have c219b0 : (t670 == 0) = false := beq_eq_false_iff_ne.mpr c219
                   have c219b1 : (t670 != 0) = true := bne_iff_ne.mpr c219
                   obtain rfl := Option.some.inj H
                   have hcz220_0 : wc.cell? ⟨gb638, 0, none⟩ = some (.string (⟨#[97]⟩ : ByteArray)) := (blk_cell BK638.out 0).trans rfl
                   have hcz220_1 : wc.cell? ⟨gb638, 1, none⟩ = some (.int .u8 a0_1) := (blk_cell BK638.out 1).trans rfl
                   have hcz220_2 : wc.cell? ⟨gb638, 2, none⟩ = some (.bool a0_2) := (blk_cell BK638.out 2).trans rfl
                   have hcz220_3 : wc.cell? ⟨gb638, 3, none⟩ = some (.int .i64 a0_3) := (blk_cell BK638.out 3).trans rfl
                   have hcz220_4 : wc.cell? ⟨gb638, 4, none⟩ = some (.int .i64 a0_4) := (blk_cell BK638.out 4).trans rfl
                   have hcz220_5 : wc.cell? ⟨gb638, 5, none⟩ = some (.int .i64 a0_5) := (blk_cell BK638.out 5).trans rfl
                   have hfz220_0 := blk_frozen BK638.out 0
                   have hfz220_1 := blk_frozen BK638.out 1
                   have hfz220_2 := blk_frozen BK638.out 2
                   have hfz220_3 := blk_frozen BK638.out 3
                   have hfz220_4 := blk_frozen BK638.out 4
                   have hfz220_5 := blk_frozen BK638.out 5
                   go_wp2_with (first | (go_at_call 50; (with_reducible refine (sym_Check.calls kj11 (⟨#[97]⟩ : ByteArray) a0_1 a0_2 a0_3 a0_4 a0_5 16 t670 _ A218.out).mono ?_); rintro e w221 ⟨rfl, hb⟩; have n0_ := Aside0.mk (blk_below (g := gb638) (o := .cells #[.string (⟨#[97]⟩ : ByteArray), .int .u8 a0_1, .bool a0_2, .int .i64 a0_3, .int .i64 a0_4, .int .i64 a0_5] 64 (0, 0)) (by (with_reducible repeat (first | refine blk_drewN ?_ _ | refine blk_drew ?_ | refine blk_alloc ?_ _)); exact BK638.out) hb); have n1_ := Aside0.mk (below_step (by repeat (first | (with_reducible first | exact HB.out | apply below_alloc | apply pw_below_drewN | apply below_drew1 | refine below_set ?_ GE638.out) | exact HB.out)) hb); clear BK638; clear HB; have BK638 := n0_; have HB := n1_; clear n0_ n1_; (try clear hb); (try clear hb2); (try clear hk); (try clear hi)))
                   go_ret
                   exact ⟨by first | rfl | (simp [errW_none, errW_some] <;> rfl) | (simp [*, errW_none, errW_some] <;> rfl), by repeat (first | (with_reducible first | exact HB.out | apply below_alloc | apply pw_below_drewN | apply below_drew1 | refine below_set ?_ GE638.out) | exact HB.out)⟩
                 ·
                  replace c217 := Bool.eq_false_iff.mpr c217
                  subst c217
                  have H1 : (none) = some r := by rw [if_neg (show ¬ (false = true) by decide)] at H; exact H
                  clear H
                  have H := H1
                  clear H1
                  exact absurd H (by simp)
               ·
                rw [if_neg c202] at H
                have c202b0 : (a0_4 == 32) = false := beq_eq_false_iff_ne.mpr c202
                have c202b1 : (a0_4 != 32) = true := bne_iff_ne.mpr c202
                by_cases c222 : a0_4 = 64
                ·
                 rw [if_pos c222] at H
                 have c222b0 : (a0_4 == 64) = true := beq_iff_eq.mpr c222
                 have c222b1 : (a0_4 != 64) = false := bne_eq_false_iff_eq.mpr c222
                 clear c222
                 by_cases c223 : a0_5 ≥ 1
                 ·
                  rw [if_pos c223] at H
                  have c223b0 : decide (1 ≤ a0_5) = true := decide_eq_true c223
                  clear c223
                  by_cases c224 : a0_5 ≤ 4096
                  ·
                   rw [if_pos c224] at H
                   have c224b0 : decide (a0_5 ≤ 4096) = true := decide_eq_true c224
                   clear c224
                   by_cases c225 : t639 = true
                   ·
                    subst c225
                    have H1 : ((sym_Check.f kj11 (⟨#[97]⟩ : ByteArray) a0_1 a0_2 a0_3 a0_4 a0_5 16).bind fun t671 => (if t671 = 0 then (some (a0_1 == 1)) else (some (!(a0_1 == 1))))) = some r := by rw [if_pos rfl] at H; exact H
                    clear H
                    have H := H1
                    clear H1
                    replace H := Option.bind_eq_some_iff.mp H
                    obtain ⟨t671, A2260, H⟩ := H
                    replace H : (if t671 = 0 then (some (a0_1 == 1)) else (some (!(a0_1 == 1)))) = some r := H
                    have A226 := Aside0.mk A2260
                    clear A2260
                    by_cases c227 : t671 = 0
                    ·
                     rw [if_pos c227] at H
                     have c227b0 : (t671 == 0) = true := beq_iff_eq.mpr c227
                     have c227b1 : (t671 != 0) = false := bne_eq_false_iff_eq.mpr c227
                     clear c227
                     obtain rfl := Option.some.inj H
                     have hcz228_0 : wc.cell? ⟨gb638, 0, none⟩ = some (.string (⟨#[97]⟩ : ByteArray)) := (blk_cell BK638.out 0).trans rfl
                     have hcz228_1 : wc.cell? ⟨gb638, 1, none⟩ = some (.int .u8 a0_1) := (blk_cell BK638.out 1).trans rfl
                     have hcz228_2 : wc.cell? ⟨gb638, 2, none⟩ = some (.bool a0_2) := (blk_cell BK638.out 2).trans rfl
                     have hcz228_3 : wc.cell? ⟨gb638, 3, none⟩ = some (.int .i64 a0_3) := (blk_cell BK638.out 3).trans rfl
                     have hcz228_4 : wc.cell? ⟨gb638, 4, none⟩ = some (.int .i64 a0_4) := (blk_cell BK638.out 4).trans rfl
                     have hcz228_5 : wc.cell? ⟨gb638, 5, none⟩ = some (.int .i64 a0_5) := (blk_cell BK638.out 5).trans rfl
                     have hfz228_0 := blk_frozen BK638.out 0
                     have hfz228_1 := blk_frozen BK638.out 1
                     have hfz228_2 := blk_frozen BK638.out 2
                     have hfz228_3 := blk_frozen BK638.out 3
                     have hfz228_4 := blk_frozen BK638.out 4
                     have hfz228_5 := blk_frozen BK638.out 5
                     go_wp2_with (first | (go_at_call 50; (with_reducible refine (sym_Check.calls kj11 (⟨#[97]⟩ : ByteArray) a0_1 a0_2 a0_3 a0_4 a0_5 16 t671 _ A226.out).mono ?_); rintro e w229 ⟨rfl, hb⟩; have n0_ := Aside0.mk (blk_below (g := gb638) (o := .cells #[.string (⟨#[97]⟩ : ByteArray), .int .u8 a0_1, .bool a0_2, .int .i64 a0_3, .int .i64 a0_4, .int .i64 a0_5] 64 (0, 0)) (by (with_reducible repeat (first | refine blk_drewN ?_ _ | refine blk_drew ?_ | refine blk_alloc ?_ _)); exact BK638.out) hb); have n1_ := Aside0.mk (below_step (by repeat (first | (with_reducible first | exact HB.out | apply below_alloc | apply pw_below_drewN | apply below_drew1 | refine below_set ?_ GE638.out) | exact HB.out)) hb); clear BK638; clear HB; have BK638 := n0_; have HB := n1_; clear n0_ n1_; (try clear hb); (try clear hb2); (try clear hk); (try clear hi)))
                     go_ret
                     exact ⟨by first | rfl | (simp [errW_none, errW_some] <;> rfl) | (simp [*, errW_none, errW_some] <;> rfl), by repeat (first | (with_reducible first | exact HB.out | apply below_alloc | apply pw_below_drewN | apply below_drew1 | refine below_set ?_ GE638.out) | exact HB.out)⟩
                    ·
                     rw [if_neg c227] at H
                     have c227b0 : (t671 == 0) = false := beq_eq_false_iff_ne.mpr c227
                     have c227b1 : (t671 != 0) = true := bne_iff_ne.mpr c227
                     obtain rfl := Option.some.inj H
                     have hcz230_0 : wc.cell? ⟨gb638, 0, none⟩ = some (.string (⟨#[97]⟩ : ByteArray)) := (blk_cell BK638.out 0).trans rfl
                     have hcz230_1 : wc.cell? ⟨gb638, 1, none⟩ = some (.int .u8 a0_1) := (blk_cell BK638.out 1).trans rfl
                     have hcz230_2 : wc.cell? ⟨gb638, 2, none⟩ = some (.bool a0_2) := (blk_cell BK638.out 2).trans rfl
                     have hcz230_3 : wc.cell? ⟨gb638, 3, none⟩ = some (.int .i64 a0_3) := (blk_cell BK638.out 3).trans rfl
                     have hcz230_4 : wc.cell? ⟨gb638, 4, none⟩ = some (.int .i64 a0_4) := (blk_cell BK638.out 4).trans rfl
                     have hcz230_5 : wc.cell? ⟨gb638, 5, none⟩ = some (.int .i64 a0_5) := (blk_cell BK638.out 5).trans rfl
                     have hfz230_0 := blk_frozen BK638.out 0
                     have hfz230_1 := blk_frozen BK638.out 1
                     have hfz230_2 := blk_frozen BK638.out 2
                     have hfz230_3 := blk_frozen BK638.out 3
                     have hfz230_4 := blk_frozen BK638.out 4
                     have hfz230_5 := blk_frozen BK638.out 5
                     go_wp2_with (first | (go_at_call 50; (with_reducible refine (sym_Check.calls kj11 (⟨#[97]⟩ : ByteArray) a0_1 a0_2 a0_3 a0_4 a0_5 16 t671 _ A226.out).mono ?_); rintro e w231 ⟨rfl, hb⟩; have n0_ := Aside0.mk (blk_below (g := gb638) (o := .cells #[.string (⟨#[97]⟩ : ByteArray), .int .u8 a0_1, .bool a0_2, .int .i64 a0_3, .int .i64 a0_4, .int .i64 a0_5] 64 (0, 0)) (by (with_reducible repeat (first | refine blk_drewN ?_ _ | refine blk_drew ?_ | refine blk_alloc ?_ _)); exact BK638.out) hb); have n1_ := Aside0.mk (below_step (by repeat (first | (with_reducible first | exact HB.out | apply below_alloc | apply pw_below_drewN | apply below_drew1 | refine below_set ?_ GE638.out) | exact HB.out)) hb); clear BK638; clear HB; have BK638 := n0_; have HB := n1_; clear n0_ n1_; (try clear hb); (try clear hb2); (try clear hk); (try clear hi)))
                     go_ret
                     exact ⟨by first | rfl | (simp [errW_none, errW_some] <;> rfl) | (simp [*, errW_none, errW_some] <;> rfl), by repeat (first | (with_reducible first | exact HB.out | apply below_alloc | apply pw_below_drewN | apply below_drew1 | refine below_set ?_ GE638.out) | exact HB.out)⟩
                   ·
                    replace c225 := Bool.eq_false_iff.mpr c225
                    subst c225
                    have H1 : (none) = some r := by rw [if_neg (show ¬ (false = true) by decide)] at H; exact H
                    clear H
                    have H := H1
                    clear H1
                    exact absurd H (by simp)
                  ·
                   rw [if_neg c224] at H
                   have c224b0 : decide (a0_5 ≤ 4096) = false := decide_eq_false c224
                   clear c224
                   by_cases c232 : t639 = true
                   ·
                    subst c232
                    have H1 : ((sym_Check.f kj11 (⟨#[97]⟩ : ByteArray) a0_1 a0_2 a0_3 a0_4 a0_5 16).bind fun t672 => (if t672 = 0 then (none) else (some true))) = some r := by rw [if_pos rfl] at H; exact H
                    clear H
                    have H := H1
                    clear H1
                    replace H := Option.bind_eq_some_iff.mp H
                    obtain ⟨t672, A2330, H⟩ := H
                    replace H : (if t672 = 0 then (none) else (some true)) = some r := H
                    have A233 := Aside0.mk A2330
                    clear A2330
                    by_cases c234 : t672 = 0
                    ·
                     rw [if_pos c234] at H
                     exact absurd H (by simp)
                    ·
                     rw [if_neg c234] at H
                     have c234b0 : (t672 == 0) = false := beq_eq_false_iff_ne.mpr c234
                     have c234b1 : (t672 != 0) = true := bne_iff_ne.mpr c234
                     obtain rfl := Option.some.inj H
                     have hcz235_0 : wc.cell? ⟨gb638, 0, none⟩ = some (.string (⟨#[97]⟩ : ByteArray)) := (blk_cell BK638.out 0).trans rfl
                     have hcz235_1 : wc.cell? ⟨gb638, 1, none⟩ = some (.int .u8 a0_1) := (blk_cell BK638.out 1).trans rfl
                     have hcz235_2 : wc.cell? ⟨gb638, 2, none⟩ = some (.bool a0_2) := (blk_cell BK638.out 2).trans rfl
                     have hcz235_3 : wc.cell? ⟨gb638, 3, none⟩ = some (.int .i64 a0_3) := (blk_cell BK638.out 3).trans rfl
                     have hcz235_4 : wc.cell? ⟨gb638, 4, none⟩ = some (.int .i64 a0_4) := (blk_cell BK638.out 4).trans rfl
                     have hcz235_5 : wc.cell? ⟨gb638, 5, none⟩ = some (.int .i64 a0_5) := (blk_cell BK638.out 5).trans rfl
                     have hfz235_0 := blk_frozen BK638.out 0
                     have hfz235_1 := blk_frozen BK638.out 1
                     have hfz235_2 := blk_frozen BK638.out 2
                     have hfz235_3 := blk_frozen BK638.out 3
                     have hfz235_4 := blk_frozen BK638.out 4
                     have hfz235_5 := blk_frozen BK638.out 5
                     go_wp2_with (first | (go_at_call 50; (with_reducible refine (sym_Check.calls kj11 (⟨#[97]⟩ : ByteArray) a0_1 a0_2 a0_3 a0_4 a0_5 16 t672 _ A233.out).mono ?_); rintro e w236 ⟨rfl, hb⟩; have n0_ := Aside0.mk (blk_below (g := gb638) (o := .cells #[.string (⟨#[97]⟩ : ByteArray), .int .u8 a0_1, .bool a0_2, .int .i64 a0_3, .int .i64 a0_4, .int .i64 a0_5] 64 (0, 0)) (by (with_reducible repeat (first | refine blk_drewN ?_ _ | refine blk_drew ?_ | refine blk_alloc ?_ _)); exact BK638.out) hb); have n1_ := Aside0.mk (below_step (by repeat (first | (with_reducible first | exact HB.out | apply below_alloc | apply pw_below_drewN | apply below_drew1 | refine below_set ?_ GE638.out) | exact HB.out)) hb); clear BK638; clear HB; have BK638 := n0_; have HB := n1_; clear n0_ n1_; (try clear hb); (try clear hb2); (try clear hk); (try clear hi)))
                     go_ret
                     exact ⟨by first | rfl | (simp [errW_none, errW_some] <;> rfl) | (simp [*, errW_none, errW_some] <;> rfl), by repeat (first | (with_reducible first | exact HB.out | apply below_alloc | apply pw_below_drewN | apply below_drew1 | refine below_set ?_ GE638.out) | exact HB.out)⟩
                   ·
                    replace c232 := Bool.eq_false_iff.mpr c232
                    subst c232
                    have H1 : (none) = some r := by rw [if_neg (show ¬ (false = true) by decide)] at H; exact H
                    clear H
                    have H := H1
                    clear H1
                    exact absurd H (by simp)
                 ·
                  rw [if_neg c223] at H
                  have c223b0 : decide (1 ≤ a0_5) = false := decide_eq_false c223
                  clear c223
                  by_cases c237 : t639 = true
                  ·
                   subst c237
                   have H1 : ((sym_Check.f kj11 (⟨#[97]⟩ : ByteArray) a0_1 a0_2 a0_3 a0_4 a0_5 16).bind fun t673 => (if t673 = 0 then (none) else (some true))) = some r := by rw [if_pos rfl] at H; exact H
                   clear H
                   have H := H1
                   clear H1
                   replace H := Option.bind_eq_some_iff.mp H
                   obtain ⟨t673, A2380, H⟩ := H
                   replace H : (if t673 = 0 then (none) else (some true)) = some r := H
                   have A238 := Aside0.mk A2380
                   clear A2380
                   by_cases c239 : t673 = 0
                   ·
                    rw [if_pos c239] at H
                    exact absurd H (by simp)
                   ·
                    rw [if_neg c239] at H
                    have c239b0 : (t673 == 0) = false := beq_eq_false_iff_ne.mpr c239
                    have c239b1 : (t673 != 0) = true := bne_iff_ne.mpr c239
                    obtain rfl := Option.some.inj H
                    have hcz240_0 : wc.cell? ⟨gb638, 0, none⟩ = some (.string (⟨#[97]⟩ : ByteArray)) := (blk_cell BK638.out 0).trans rfl
                    have hcz240_1 : wc.cell? ⟨gb638, 1, none⟩ = some (.int .u8 a0_1) := (blk_cell BK638.out 1).trans rfl
                    have hcz240_2 : wc.cell? ⟨gb638, 2, none⟩ = some (.bool a0_2) := (blk_cell BK638.out 2).trans rfl
                    have hcz240_3 : wc.cell? ⟨gb638, 3, none⟩ = some (.int .i64 a0_3) := (blk_cell BK638.out 3).trans rfl
                    have hcz240_4 : wc.cell? ⟨gb638, 4, none⟩ = some (.int .i64 a0_4) := (blk_cell BK638.out 4).trans rfl
                    have hcz240_5 : wc.cell? ⟨gb638, 5, none⟩ = some (.int .i64 a0_5) := (blk_cell BK638.out 5).trans rfl
                    have hfz240_0 := blk_frozen BK638.out 0
                    have hfz240_1 := blk_frozen BK638.out 1
                    have hfz240_2 := blk_frozen BK638.out 2
                    have hfz240_3 := blk_frozen BK638.out 3
                    have hfz240_4 := blk_frozen BK638.out 4
                    have hfz240_5 := blk_frozen BK638.out 5
                    go_wp2_with (first | (go_at_call 50; (with_reducible refine (sym_Check.calls kj11 (⟨#[97]⟩ : ByteArray) a0_1 a0_2 a0_3 a0_4 a0_5 16 t673 _ A238.out).mono ?_); rintro e w241 ⟨rfl, hb⟩; have n0_ := Aside0.mk (blk_below (g := gb638) (o := .cells #[.string (⟨#[97]⟩ : ByteArray), .int .u8 a0_1, .bool a0_2, .int .i64 a0_3, .int .i64 a0_4, .int .i64 a0_5] 64 (0, 0)) (by (with_reducible repeat (first | refine blk_drewN ?_ _ | refine blk_drew ?_ | refine blk_alloc ?_ _)); exact BK638.out) hb); have n1_ := Aside0.mk (below_step (by repeat (first | (with_reducible first | exact HB.out | apply below_alloc | apply pw_below_drewN | apply below_drew1 | refine below_set ?_ GE638.out) | exact HB.out)) hb); clear BK638; clear HB; have BK638 := n0_; have HB := n1_; clear n0_ n1_; (try clear hb); (try clear hb2); (try clear hk); (try clear hi)))
                    go_ret
                    exact ⟨by first | rfl | (simp [errW_none, errW_some] <;> rfl) | (simp [*, errW_none, errW_some] <;> rfl), by repeat (first | (with_reducible first | exact HB.out | apply below_alloc | apply pw_below_drewN | apply below_drew1 | refine below_set ?_ GE638.out) | exact HB.out)⟩
                  ·
                   replace c237 := Bool.eq_false_iff.mpr c237
                   subst c237
                   have H1 : (none) = some r := by rw [if_neg (show ¬ (false = true) by decide)] at H; exact H
                   clear H
                   have H := H1
                   clear H1
                   exact absurd H (by simp)
                ·
                 rw [if_neg c222] at H
                 have c222b0 : (a0_4 == 64) = false := beq_eq_false_iff_ne.mpr c222
                 have c222b1 : (a0_4 != 64) = true := bne_iff_ne.mpr c222
                 by_cases c242 : t639 = true
                 ·
                  subst c242
                  have H1 : ((sym_Check.f kj11 (⟨#[97]⟩ : ByteArray) a0_1 a0_2 a0_3 a0_4 a0_5 16).bind fun t674 => (if t674 = 0 then (none) else (some true))) = some r := by rw [if_pos rfl] at H; exact H
                  clear H
                  have H := H1
                  clear H1
                  replace H := Option.bind_eq_some_iff.mp H
                  obtain ⟨t674, A2430, H⟩ := H
                  replace H : (if t674 = 0 then (none) else (some true)) = some r := H
                  have A243 := Aside0.mk A2430
                  clear A2430
                  by_cases c244 : t674 = 0
                  ·
                   rw [if_pos c244] at H
                   exact absurd H (by simp)
                  ·
                   rw [if_neg c244] at H
                   have c244b0 : (t674 == 0) = false := beq_eq_false_iff_ne.mpr c244
                   have c244b1 : (t674 != 0) = true := bne_iff_ne.mpr c244
                   obtain rfl := Option.some.inj H
                   have hcz245_0 : wc.cell? ⟨gb638, 0, none⟩ = some (.string (⟨#[97]⟩ : ByteArray)) := (blk_cell BK638.out 0).trans rfl
                   have hcz245_1 : wc.cell? ⟨gb638, 1, none⟩ = some (.int .u8 a0_1) := (blk_cell BK638.out 1).trans rfl
                   have hcz245_2 : wc.cell? ⟨gb638, 2, none⟩ = some (.bool a0_2) := (blk_cell BK638.out 2).trans rfl
                   have hcz245_3 : wc.cell? ⟨gb638, 3, none⟩ = some (.int .i64 a0_3) := (blk_cell BK638.out 3).trans rfl
                   have hcz245_4 : wc.cell? ⟨gb638, 4, none⟩ = some (.int .i64 a0_4) := (blk_cell BK638.out 4).trans rfl
                   have hcz245_5 : wc.cell? ⟨gb638, 5, none⟩ = some (.int .i64 a0_5) := (blk_cell BK638.out 5).trans rfl
                   have hfz245_0 := blk_frozen BK638.out 0
                   have hfz245_1 := blk_frozen BK638.out 1
                   have hfz245_2 := blk_frozen BK638.out 2
                   have hfz245_3 := blk_frozen BK638.out 3
                   have hfz245_4 := blk_frozen BK638.out 4
                   have hfz245_5 := blk_frozen BK638.out 5
                   go_wp2_with (first | (go_at_call 50; (with_reducible refine (sym_Check.calls kj11 (⟨#[97]⟩ : ByteArray) a0_1 a0_2 a0_3 a0_4 a0_5 16 t674 _ A243.out).mono ?_); rintro e w246 ⟨rfl, hb⟩; have n0_ := Aside0.mk (blk_below (g := gb638) (o := .cells #[.string (⟨#[97]⟩ : ByteArray), .int .u8 a0_1, .bool a0_2, .int .i64 a0_3, .int .i64 a0_4, .int .i64 a0_5] 64 (0, 0)) (by (with_reducible repeat (first | refine blk_drewN ?_ _ | refine blk_drew ?_ | refine blk_alloc ?_ _)); exact BK638.out) hb); have n1_ := Aside0.mk (below_step (by repeat (first | (with_reducible first | exact HB.out | apply below_alloc | apply pw_below_drewN | apply below_drew1 | refine below_set ?_ GE638.out) | exact HB.out)) hb); clear BK638; clear HB; have BK638 := n0_; have HB := n1_; clear n0_ n1_; (try clear hb); (try clear hb2); (try clear hk); (try clear hi)))
                   go_ret
                   exact ⟨by first | rfl | (simp [errW_none, errW_some] <;> rfl) | (simp [*, errW_none, errW_some] <;> rfl), by repeat (first | (with_reducible first | exact HB.out | apply below_alloc | apply pw_below_drewN | apply below_drew1 | refine below_set ?_ GE638.out) | exact HB.out)⟩
                 ·
                  replace c242 := Bool.eq_false_iff.mpr c242
                  subst c242
                  have H1 : (none) = some r := by rw [if_neg (show ¬ (false = true) by decide)] at H; exact H
                  clear H
                  have H := H1
                  clear H1
                  exact absurd H (by simp)
         ·
          replace c101 := Bool.eq_false_iff.mpr c101
          subst c101
          have H1 : (if t639 = true then ((sym_Check.f kj11 (⟨#[97]⟩ : ByteArray) a0_1 a0_2 a0_3 a0_4 a0_5 16).bind fun t675 => (if t675 = 0 then (none) else (some true))) else (none)) = some r := by rw [if_neg (show ¬ (false = true) by decide)] at H; exact H
          clear H
          have H := H1
          clear H1
          by_cases c247 : t639 = true
          ·
           subst c247
           have H1 : ((sym_Check.f kj11 (⟨#[97]⟩ : ByteArray) a0_1 a0_2 a0_3 a0_4 a0_5 16).bind fun t675 => (if t675 = 0 then (none) else (some true))) = some r := by rw [if_pos rfl] at H; exact H
           clear H
           have H := H1
           clear H1
           replace H := Option.bind_eq_some_iff.mp H
           obtain ⟨t675, A2480, H⟩ := H
           replace H : (if t675 = 0 then (none) else (some true)) = some r := H
           have A248 := Aside0.mk A2480
           clear A2480
           by_cases c249 : t675 = 0
           ·
            rw [if_pos c249] at H
            exact absurd H (by simp)
           ·
            rw [if_neg c249] at H
            have c249b0 : (t675 == 0) = false := beq_eq_false_iff_ne.mpr c249
            have c249b1 : (t675 != 0) = true := bne_iff_ne.mpr c249
            obtain rfl := Option.some.inj H
            have hcz250_0 : wc.cell? ⟨gb638, 0, none⟩ = some (.string (⟨#[97]⟩ : ByteArray)) := (blk_cell BK638.out 0).trans rfl
            have hcz250_1 : wc.cell? ⟨gb638, 1, none⟩ = some (.int .u8 a0_1) := (blk_cell BK638.out 1).trans rfl
            have hcz250_2 : wc.cell? ⟨gb638, 2, none⟩ = some (.bool a0_2) := (blk_cell BK638.out 2).trans rfl
            have hcz250_3 : wc.cell? ⟨gb638, 3, none⟩ = some (.int .i64 a0_3) := (blk_cell BK638.out 3).trans rfl
            have hcz250_4 : wc.cell? ⟨gb638, 4, none⟩ = some (.int .i64 a0_4) := (blk_cell BK638.out 4).trans rfl
            have hcz250_5 : wc.cell? ⟨gb638, 5, none⟩ = some (.int .i64 a0_5) := (blk_cell BK638.out 5).trans rfl
            have hfz250_0 := blk_frozen BK638.out 0
            have hfz250_1 := blk_frozen BK638.out 1
            have hfz250_2 := blk_frozen BK638.out 2
            have hfz250_3 := blk_frozen BK638.out 3
            have hfz250_4 := blk_frozen BK638.out 4
            have hfz250_5 := blk_frozen BK638.out 5
            go_wp2_with (first | (go_at_call 50; (with_reducible refine (sym_Check.calls kj11 (⟨#[97]⟩ : ByteArray) a0_1 a0_2 a0_3 a0_4 a0_5 16 t675 _ A248.out).mono ?_); rintro e w251 ⟨rfl, hb⟩; have n0_ := Aside0.mk (blk_below (g := gb638) (o := .cells #[.string (⟨#[97]⟩ : ByteArray), .int .u8 a0_1, .bool a0_2, .int .i64 a0_3, .int .i64 a0_4, .int .i64 a0_5] 64 (0, 0)) (by (with_reducible repeat (first | refine blk_drewN ?_ _ | refine blk_drew ?_ | refine blk_alloc ?_ _)); exact BK638.out) hb); have n1_ := Aside0.mk (below_step (by repeat (first | (with_reducible first | exact HB.out | apply below_alloc | apply pw_below_drewN | apply below_drew1 | refine below_set ?_ GE638.out) | exact HB.out)) hb); clear BK638; clear HB; have BK638 := n0_; have HB := n1_; clear n0_ n1_; (try clear hb); (try clear hb2); (try clear hk); (try clear hi)))
            go_ret
            exact ⟨by first | rfl | (simp [errW_none, errW_some] <;> rfl) | (simp [*, errW_none, errW_some] <;> rfl), by repeat (first | (with_reducible first | exact HB.out | apply below_alloc | apply pw_below_drewN | apply below_drew1 | refine below_set ?_ GE638.out) | exact HB.out)⟩
          ·
           replace c247 := Bool.eq_false_iff.mpr c247
           subst c247
           have H1 : (none) = some r := by rw [if_neg (show ¬ (false = true) by decide)] at H; exact H
           clear H
           have H := H1
           clear H1
           exact absurd H (by simp)
        ·
         rw [if_neg c100] at H
         have c100b0 : (a0_3 == (-2)) = false := beq_eq_false_iff_ne.mpr c100
         have c100b1 : (a0_3 != (-2)) = true := bne_iff_ne.mpr c100
         by_cases c252 : t639 = true
         ·
          subst c252
          have H1 : ((sym_Check.f kj11 (⟨#[97]⟩ : ByteArray) a0_1 a0_2 a0_3 a0_4 a0_5 16).bind fun t676 => (if t676 = 0 then (none) else (some true))) = some r := by rw [if_pos rfl] at H; exact H
          clear H
          have H := H1
          clear H1
          replace H := Option.bind_eq_some_iff.mp H
          obtain ⟨t676, A2530, H⟩ := H
          replace H : (if t676 = 0 then (none) else (some true)) = some r := H
          have A253 := Aside0.mk A2530
          clear A2530
          by_cases c254 : t676 = 0
          ·
           rw [if_pos c254] at H
           exact absurd H (by simp)
          ·
           rw [if_neg c254] at H
           have c254b0 : (t676 == 0) = false := beq_eq_false_iff_ne.mpr c254
           have c254b1 : (t676 != 0) = true := bne_iff_ne.mpr c254
           obtain rfl := Option.some.inj H
           have hcz255_0 : wc.cell? ⟨gb638, 0, none⟩ = some (.string (⟨#[97]⟩ : ByteArray)) := (blk_cell BK638.out 0).trans rfl
           have hcz255_1 : wc.cell? ⟨gb638, 1, none⟩ = some (.int .u8 a0_1) := (blk_cell BK638.out 1).trans rfl
           have hcz255_2 : wc.cell? ⟨gb638, 2, none⟩ = some (.bool a0_2) := (blk_cell BK638.out 2).trans rfl
           have hcz255_3 : wc.cell? ⟨gb638, 3, none⟩ = some (.int .i64 a0_3) := (blk_cell BK638.out 3).trans rfl
           have hcz255_4 : wc.cell? ⟨gb638, 4, none⟩ = some (.int .i64 a0_4) := (blk_cell BK638.out 4).trans rfl
           have hcz255_5 : wc.cell? ⟨gb638, 5, none⟩ = some (.int .i64 a0_5) := (blk_cell BK638.out 5).trans rfl
           have hfz255_0 := blk_frozen BK638.out 0
           have hfz255_1 := blk_frozen BK638.out 1
           have hfz255_2 := blk_frozen BK638.out 2
           have hfz255_3 := blk_frozen BK638.out 3
           have hfz255_4 := blk_frozen BK638.out 4
           have hfz255_5 := blk_frozen BK638.out 5
           go_wp2_with (first | (go_at_call 50; (with_reducible refine (sym_Check.calls kj11 (⟨#[97]⟩ : ByteArray) a0_1 a0_2 a0_3 a0_4 a0_5 16 t676 _ A253.out).mono ?_); rintro e w256 ⟨rfl, hb⟩; have n0_ := Aside0.mk (blk_below (g := gb638) (o := .cells #[.string (⟨#[97]⟩ : ByteArray), .int .u8 a0_1, .bool a0_2, .int .i64 a0_3, .int .i64 a0_4, .int .i64 a0_5] 64 (0, 0)) (by (with_reducible repeat (first | refine blk_drewN ?_ _ | refine blk_drew ?_ | refine blk_alloc ?_ _)); exact BK638.out) hb); have n1_ := Aside0.mk (below_step (by repeat (first | (with_reducible first | exact HB.out | apply below_alloc | apply pw_below_drewN | apply below_drew1 | refine below_set ?_ GE638.out) | exact HB.out)) hb); clear BK638; clear HB; have BK638 := n0_; have HB := n1_; clear n0_ n1_; (try clear hb); (try clear hb2); (try clear hk); (try clear hi)))
           go_ret
           exact ⟨by first | rfl | (simp [errW_none, errW_some] <;> rfl) | (simp [*, errW_none, errW_some] <;> rfl), by repeat (first | (with_reducible first | exact HB.out | apply below_alloc | apply pw_below_drewN | apply below_drew1 | refine below_set ?_ GE638.out) | exact HB.out)⟩
         ·
          replace c252 := Bool.eq_false_iff.mpr c252
          subst c252
          have H1 : (none) = some r := by rw [if_neg (show ¬ (false = true) by decide)] at H; exact H
          clear H
          have H := H1
          clear H1
          exact absurd H (by simp)

/-- THE ONE PURE STATEMENT of quoinlaw10_SymKinds: yours. -/
def quoinlaw10_SymKinds.Pure : Prop := ∀ (a0_0 : ByteArray) (a0_1 : Int) (a0_2 : Bool) (a0_3 : Int) (a0_4 : Int) (a0_5 : Int), a0_0.size ≤ maxLen → (Lit.int .u8 a0_1).wf = true → (Lit.int .i64 a0_3).wf = true → (Lit.int .i64 a0_4).wf = true → (Lit.int .i64 a0_5).wf = true → ∃ k, quoinlaw10_SymKinds.f k a0_0 a0_1 a0_2 a0_3 a0_4 a0_5 = some true
theorem quoinlaw10_SymKinds.walk (P : quoinlaw10_SymKinds.Pure) (a0_0 : ByteArray) (a0_1 : Int) (a0_2 : Bool) (a0_3 : Int) (a0_4 : Int) (a0_5 : Int) (w : World) (w0_0 : a0_0.size ≤ maxLen) (w0_1 : (Lit.int .u8 a0_1).wf = true) (w0_2 : (Lit.int .i64 a0_3).wf = true) (w0_3 : (Lit.int .i64 a0_4).wf = true) (w0_4 : (Lit.int .i64 a0_5).wf = true) :
  Calls Try.prog 18 #[.agg #[.string a0_0, .int .u8 a0_1, .bool a0_2, .int .i64 a0_3, .int .i64 a0_4, .int .i64 a0_5]] w fun e w' => e = .returned (.bool true) ∧ Below w.heap.size w w' := by
 obtain ⟨k, h⟩ := P a0_0 a0_1 a0_2 a0_3 a0_4 a0_5 w0_0 w0_1 w0_2 w0_3 w0_4
 refine (quoinlaw10_SymKinds.calls k a0_0 a0_1 a0_2 a0_3 a0_4 a0_5 true w h).mono ?_
 rintro e w' ⟨rfl, hd⟩
 exact ⟨rfl, hd⟩

end Go.Proofs.Ytomabnfeipobnaa.P
