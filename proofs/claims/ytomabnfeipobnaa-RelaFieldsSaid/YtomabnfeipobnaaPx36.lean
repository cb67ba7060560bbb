-- Written by pext.py, a program of this session, over the kit's print: a function's contract
import Derived.Test.YtomabnfeipobnaaPx0
import Derived.Test.YtomabnfeipobnaaPx3
import Derived.Test.YtomabnfeipobnaaPx9
import Derived.Test.YtomabnfeipobnaaPx10
import Derived.Test.YtomabnfeipobnaaPx13
namespace Go.Proofs.Ytomabnfeipobnaa.P
open Go.RowKit Go.Proofs.YtomabnfeipobnaaW.PrintWords Go.Proofs.YtomabnfeipobnaaW.PrintLast Go.Proofs.YtomabnfeipobnaaW.PrintMore
attribute [local go_sem] max2_int min2_int max_two min_two max_three min_three max_four min_four   -- for this text's walks alone
set_option linter.unusedVariables false
set_option linter.unusedSimpArgs false

attribute [local go_sem high] eqA71
/-! ### quoinlaw11_RelaFields: function 20 -/
mutual
def quoinlaw11_RelaFields.j0 : Nat → Bool → Bool → Int → Int → Int → Int → Int → Int → Int → Int → Int → Int → Option (Bool)
 | 0, _, _, _, _, _, _, _, _, _, _, _, _ => none
 | k + 1, x7, x56, x721000, x721001, x721002, x721003, x721004, x722000, x722001, x722002, x722003, x722004 => if x56 = true then (none) else ((rela_Write.f k x721000 x721001 x721002 x721003 x721004).bind fun bt725 => ((rela_Write.f k x722000 x722001 x722002 x722003 x722004).bind fun bt729 => ((rela_Field.f k x721002).bind fun bt733 => (if bt733.2 = 0 then (if x721001 ≥ 0 then (if x721001 ≤ 4096 then (if x721003 ≥ (-1) then (if x721003 ≤ 63 then (if x721004 ≥ (-2147483648) then (quoinlaw11_RelaFields.j1 k x7 bt725.1 bt725.2 bt729.1 bt729.2 (decide (x721004 < 4294967296)) x721000 x721001 x721002 x721003 x721004 x722000 x722001 x722002 x722003 x722004) else (quoinlaw11_RelaFields.j1 k x7 bt725.1 bt725.2 bt729.1 bt729.2 false x721000 x721001 x721002 x721003 x721004 x722000 x722001 x722002 x722003 x722004)) else (quoinlaw11_RelaFields.j1 k x7 bt725.1 bt725.2 bt729.1 bt729.2 false x721000 x721001 x721002 x721003 x721004 x722000 x722001 x722002 x722003 x722004)) else (quoinlaw11_RelaFields.j1 k x7 bt725.1 bt725.2 bt729.1 bt729.2 false x721000 x721001 x721002 x721003 x721004 x722000 x722001 x722002 x722003 x722004)) else (quoinlaw11_RelaFields.j1 k x7 bt725.1 bt725.2 bt729.1 bt729.2 false x721000 x721001 x721002 x721003 x721004 x722000 x722001 x722002 x722003 x722004)) else (quoinlaw11_RelaFields.j1 k x7 bt725.1 bt725.2 bt729.1 bt729.2 false x721000 x721001 x721002 x721003 x721004 x722000 x722001 x722002 x722003 x722004)) else (quoinlaw11_RelaFields.j1 k x7 bt725.1 bt725.2 bt729.1 bt729.2 false x721000 x721001 x721002 x721003 x721004 x722000 x722001 x722002 x722003 x722004)))))
def quoinlaw11_RelaFields.j1 : Nat → Bool → List Int → Int → List Int → Int → Bool → Int → Int → Int → Int → Int → Int → Int → Int → Int → Int → Option (Bool)
 | 0, _, _, _, _, _, _, _, _, _, _, _, _, _, _, _, _ => none
 | k + 1, x7, x10, x11, x12, x13, x16, x721000, x721001, x721002, x721003, x721004, x722000, x722001, x722002, x722003, x722004 => if x11 = 0 then (if x16 = true then (quoinlaw11_RelaFields.j2 k x7 x10 x11 x12 x13 false x721000 x721001 x721002 x721003 x721004 x722000 x722001 x722002 x722003 x722004) else (none)) else (if x16 = true then (none) else (quoinlaw11_RelaFields.j2 k x7 x10 x11 x12 x13 ((x10.length : Int) != 0) x721000 x721001 x721002 x721003 x721004 x722000 x722001 x722002 x722003 x722004))
def quoinlaw11_RelaFields.j2 : Nat → Bool → List Int → Int → List Int → Int → Bool → Int → Int → Int → Int → Int → Int → Int → Int → Int → Int → Option (Bool)
 | 0, _, _, _, _, _, _, _, _, _, _, _, _, _, _, _, _ => none
 | k + 1, x7, x10, x11, x12, x13, x117, x721000, x721001, x721002, x721003, x721004, x722000, x722001, x722002, x722003, x722004 => if x117 = true then (none) else (if x11 = 0 then (if x13 = 0 then (if x7 = true then (if (x10.length : Int) = 24 then (if (strOfNums x10).toList = (strOfNums x12).toList then (some (x721001 == x722001 && (x721002 == x722002 && (x721003 == x722003 && (x721004 == x722004))))) else (some (!(x721001 == x722001 && (x721002 == x722002 && (x721003 == x722003 && (x721004 == x722004))))))) else (none)) else (none)) else (some x7)) else (some x7))
end
def quoinlaw11_RelaFields.f (k : Nat) (a0 : Int) (a1_0 : Int) (a1_1 : Int) (a1_2 : Int) (a1_3 : Int) (a1_4 : Int) (a2_0 : Int) (a2_1 : Int) (a2_2 : Int) (a2_3 : Int) (a2_4 : Int) : Option (Bool) := (quoinlaw11_alive.f k).bind fun t722 => ((rela_Field.f k a0).bind fun bt723 => (if bt723.2 = 0 then (if bt723.1 = 0 then (quoinlaw11_RelaFields.j0 k t722 false a1_0 a1_1 a1_2 a1_3 a1_4 a2_0 a2_1 a2_2 a2_3 a2_4) else (if bt723.1 = 1 then (quoinlaw11_RelaFields.j0 k t722 false a1_0 a1_1 a1_2 a1_3 a1_4 a2_0 a2_1 a2_2 a2_3 a2_4) else (if bt723.1 = 2 then (quoinlaw11_RelaFields.j0 k t722 false a1_0 a1_1 a1_2 a1_3 a1_4 a2_0 a2_1 a2_2 a2_3 a2_4) else (if bt723.1 = 4 then (quoinlaw11_RelaFields.j0 k t722 false a1_0 a1_1 a1_2 a1_3 a1_4 a2_0 a2_1 a2_2 a2_3 a2_4) else (quoinlaw11_RelaFields.j0 k t722 (bt723.1 != 8) a1_0 a1_1 a1_2 a1_3 a1_4 a2_0 a2_1 a2_2 a2_3 a2_4))))) else (if bt723.2 = 2 then (if bt723.1 = 0 then (quoinlaw11_RelaFields.j0 k t722 false a1_0 a1_1 a1_2 a1_3 a1_4 a2_0 a2_1 a2_2 a2_3 a2_4) else (none)) else (none))))
theorem quoinlaw11_RelaFields.mono_l : ∀ k, (∀ y0 y1 y2 y3 y4 y5 y6 y7 y8 y9 y10 y11, LeO (quoinlaw11_RelaFields.j0 k y0 y1 y2 y3 y4 y5 y6 y7 y8 y9 y10 y11) (quoinlaw11_RelaFields.j0 (k + 1) y0 y1 y2 y3 y4 y5 y6 y7 y8 y9 y10 y11)) ∧ (∀ y0 y1 y2 y3 y4 y5 y6 y7 y8 y9 y10 y11 y12 y13 y14 y15, LeO (quoinlaw11_RelaFields.j1 k y0 y1 y2 y3 y4 y5 y6 y7 y8 y9 y10 y11 y12 y13 y14 y15) (quoinlaw11_RelaFields.j1 (k + 1) y0 y1 y2 y3 y4 y5 y6 y7 y8 y9 y10 y11 y12 y13 y14 y15)) ∧ (∀ y0 y1 y2 y3 y4 y5 y6 y7 y8 y9 y10 y11 y12 y13 y14 y15, LeO (quoinlaw11_RelaFields.j2 k y0 y1 y2 y3 y4 y5 y6 y7 y8 y9 y10 y11 y12 y13 y14 y15) (quoinlaw11_RelaFields.j2 (k + 1) y0 y1 y2 y3 y4 y5 y6 y7 y8 y9 y10 y11 y12 y13 y14 y15))
 | 0 => ⟨fun _ _ _ _ _ _ _ _ _ _ _ _ r h => by simp [quoinlaw11_RelaFields.j0] at h, fun _ _ _ _ _ _ _ _ _ _ _ _ _ _ _ _ r h => by simp [quoinlaw11_RelaFields.j1] at h, fun _ _ _ _ _ _ _ _ _ _ _ _ _ _ _ _ r h => by simp [quoinlaw11_RelaFields.j2] at h⟩
 | k + 1 => by
  obtain ⟨ih0, ih1, ih2⟩ := quoinlaw11_RelaFields.mono_l k
  refine ⟨?_, ?_, ?_⟩
  ·
   intro y0 y1 y2 y3 y4 y5 y6 y7 y8 y9 y10 y11
   unfold quoinlaw11_RelaFields.j0
   repeat' first
   | (with_reducible exact ih0 _ _ _ _ _ _ _ _ _ _ _ _)
   | (with_reducible exact ih1 _ _ _ _ _ _ _ _ _ _ _ _ _ _ _ _)
   | (with_reducible exact ih2 _ _ _ _ _ _ _ _ _ _ _ _ _ _ _ _)
   | (with_reducible exact quoinlaw11_alive.mono _)
   | (with_reducible exact rela_Field.mono _ _)
   | (with_reducible exact rela_Write.mono _ _ _ _ _ _)
   | (with_reducible exact LeO.refl _)
   | (with_reducible exact LeO.none _)
   | (with_reducible refine LeO.ite ?_ ?_)
   | (with_reducible refine LeO.bind ?_ (fun _ => ?_))
   | exact ih0 _ _ _ _ _ _ _ _ _ _ _ _
   | exact ih1 _ _ _ _ _ _ _ _ _ _ _ _ _ _ _ _
   | exact ih2 _ _ _ _ _ _ _ _ _ _ _ _ _ _ _ _
   | exact quoinlaw11_alive.mono _
   | exact rela_Field.mono _ _
   | exact rela_Write.mono _ _ _ _ _ _
   | exact LeO.none _
   | refine LeO.ite ?_ ?_
   | refine LeO.bind ?_ (fun _ => ?_)
  ·
   intro y0 y1 y2 y3 y4 y5 y6 y7 y8 y9 y10 y11 y12 y13 y14 y15
   unfold quoinlaw11_RelaFields.j1
   repeat' first
   | (with_reducible exact ih0 _ _ _ _ _ _ _ _ _ _ _ _)
   | (with_reducible exact ih1 _ _ _ _ _ _ _ _ _ _ _ _ _ _ _ _)
   | (with_reducible exact ih2 _ _ _ _ _ _ _ _ _ _ _ _ _ _ _ _)
   | (with_reducible exact quoinlaw11_alive.mono _)
   | (with_reducible exact rela_Field.mono _ _)
   | (with_reducible exact rela_Write.mono _ _ _ _ _ _)
   | (with_reducible exact LeO.refl _)
   | (with_reducible exact LeO.none _)
   | (with_reducible refine LeO.ite ?_ ?_)
   | (with_reducible refine LeO.bind ?_ (fun _ => ?_))
   | exact ih0 _ _ _ _ _ _ _ _ _ _ _ _
   | exact ih1 _ _ _ _ _ _ _ _ _ _ _ _ _ _ _ _
   | exact ih2 _ _ _ _ _ _ _ _ _ _ _ _ _ _ _ _
   | exact quoinlaw11_alive.mono _
   | exact rela_Field.mono _ _
   | exact rela_Write.mono _ _ _ _ _ _
   | exact LeO.none _
   | refine LeO.ite ?_ ?_
   | refine LeO.bind ?_ (fun _ => ?_)
  ·
   intro y0 y1 y2 y3 y4 y5 y6 y7 y8 y9 y10 y11 y12 y13 y14 y15
   unfold quoinlaw11_RelaFields.j2
   repeat' first
   | (with_reducible exact ih0 _ _ _ _ _ _ _ _ _ _ _ _)
   | (with_reducible exact ih1 _ _ _ _ _ _ _ _ _ _ _ _ _ _ _ _)
   | (with_reducible exact ih2 _ _ _ _ _ _ _ _ _ _ _ _ _ _ _ _)
   | (with_reducible exact quoinlaw11_alive.mono _)
   | (with_reducible exact rela_Field.mono _ _)
   | (with_reducible exact rela_Write.mono _ _ _ _ _ _)
   | (with_reducible exact LeO.refl _)
   | (with_reducible exact LeO.none _)
   | (with_reducible refine LeO.ite ?_ ?_)
   | (with_reducible refine LeO.bind ?_ (fun _ => ?_))
   | exact ih0 _ _ _ _ _ _ _ _ _ _ _ _
   | exact ih1 _ _ _ _ _ _ _ _ _ _ _ _ _ _ _ _
   | exact ih2 _ _ _ _ _ _ _ _ _ _ _ _ _ _ _ _
   | exact quoinlaw11_alive.mono _
   | exact rela_Field.mono _ _
   | exact rela_Write.mono _ _ _ _ _ _
   | exact LeO.none _
   | refine LeO.ite ?_ ?_
   | refine LeO.bind ?_ (fun _ => ?_)
theorem quoinlaw11_RelaFields.mono : ∀ a0 a1 a2 a3 a4 a5 a6 a7 a8 a9 a10 k, LeO (quoinlaw11_RelaFields.f k a0 a1 a2 a3 a4 a5 a6 a7 a8 a9 a10) (quoinlaw11_RelaFields.f (k + 1) a0 a1 a2 a3 a4 a5 a6 a7 a8 a9 a10) := by
 intro a0 a1 a2 a3 a4 a5 a6 a7 a8 a9 a10 k
 obtain ⟨ih0, ih1, ih2⟩ := quoinlaw11_RelaFields.mono_l k
 unfold quoinlaw11_RelaFields.f
 repeat' first
   | (with_reducible exact ih0 _ _ _ _ _ _ _ _ _ _ _ _)
   | (with_reducible exact ih1 _ _ _ _ _ _ _ _ _ _ _ _ _ _ _ _)
   | (with_reducible exact ih2 _ _ _ _ _ _ _ _ _ _ _ _ _ _ _ _)
   | (with_reducible exact quoinlaw11_alive.mono _)
   | (with_reducible exact rela_Field.mono _ _)
   | (with_reducible exact rela_Write.mono _ _ _ _ _ _)
   | (with_reducible exact LeO.refl _)
   | (with_reducible exact LeO.none _)
   | (with_reducible refine LeO.ite ?_ ?_)
   | (with_reducible refine LeO.bind ?_ (fun _ => ?_))
   | exact ih0 _ _ _ _ _ _ _ _ _ _ _ _
   | exact ih1 _ _ _ _ _ _ _ _ _ _ _ _ _ _ _ _
   | exact ih2 _ _ _ _ _ _ _ _ _ _ _ _ _ _ _ _
   | exact quoinlaw11_alive.mono _
   | exact rela_Field.mono _ _
   | exact rela_Write.mono _ _ _ _ _ _
   | exact LeO.none _
   | refine LeO.ite ?_ ?_
   | refine LeO.bind ?_ (fun _ => ?_)
set_option maxHeartbeats 8000000 in
set_option maxRecDepth 100000 in
theorem quoinlaw11_RelaFields.calls (k : Nat) (a0 : Int) (a1_0 : Int) (a1_1 : Int) (a1_2 : Int) (a1_3 : Int) (a1_4 : Int) (a2_0 : Int) (a2_1 : Int) (a2_2 : Int) (a2_3 : Int) (a2_4 : Int) (r : Bool) (w : World) (h : quoinlaw11_RelaFields.f k a0 a1_0 a1_1 a1_2 a1_3 a1_4 a2_0 a2_1 a2_2 a2_3 a2_4 = some r) :
  Calls Try.prog 20 #[.int .u8 a0, .agg #[.int .i64 a1_0, .int .i64 a1_1, .int .u8 a1_2, .int .i64 a1_3, .int .i64 a1_4], .agg #[.int .i64 a2_0, .int .i64 a2_1, .int .u8 a2_2, .int .i64 a2_3, .int .i64 a2_4]] w fun e w' => e = .returned (.bool r) ∧ Below w.heap.size w w' := by
 have hu71 := Try.underlying71
 have HB := Aside0.mk (Below.refl w.heap.size w)
 have H : ((quoinlaw11_alive.f k).bind fun t722 => ((rela_Field.f k a0).bind fun bt723 => (if bt723.2 = 0 then (if bt723.1 = 0 then (quoinlaw11_RelaFields.j0 k t722 false a1_0 a1_1 a1_2 a1_3 a1_4 a2_0 a2_1 a2_2 a2_3 a2_4) else (if bt723.1 = 1 then (quoinlaw11_RelaFields.j0 k t722 false a1_0 a1_1 a1_2 a1_3 a1_4 a2_0 a2_1 a2_2 a2_3 a2_4) else (if bt723.1 = 2 then (quoinlaw11_RelaFields.j0 k t722 false a1_0 a1_1 a1_2 a1_3 a1_4 a2_0 a2_1 a2_2 a2_3 a2_4) else (if bt723.1 = 4 then (quoinlaw11_RelaFields.j0 k t722 false a1_0 a1_1 a1_2 a1_3 a1_4 a2_0 a2_1 a2_2 a2_3 a2_4) else (quoinlaw11_RelaFields.j0 k t722 (bt723.1 != 8) a1_0 a1_1 a1_2 a1_3 a1_4 a2_0 a2_1 a2_2 a2_3 a2_4))))) else (if bt723.2 = 2 then (if bt723.1 = 0 then (quoinlaw11_RelaFields.j0 k t722 false a1_0 a1_1 a1_2 a1_3 a1_4 a2_0 a2_1 a2_2 a2_3 a2_4) else (none)) else (none))))) = some r := h
 clear h
 replace H := Option.bind_eq_some_iff.mp H
 obtain ⟨t722, A40, H⟩ := H
 replace H : ((rela_Field.f k a0).bind fun bt723 => (if bt723.2 = 0 then (if bt723.1 = 0 then (quoinlaw11_RelaFields.j0 k t722 false a1_0 a1_1 a1_2 a1_3 a1_4 a2_0 a2_1 a2_2 a2_3 a2_4) else (if bt723.1 = 1 then (quoinlaw11_RelaFields.j0 k t722 false a1_0 a1_1 a1_2 a1_3 a1_4 a2_0 a2_1 a2_2 a2_3 a2_4) else (if bt723.1 = 2 then (quoinlaw11_RelaFields.j0 k t722 false a1_0 a1_1 a1_2 a1_3 a1_4 a2_0 a2_1 a2_2 a2_3 a2_4) else (if bt723.1 = 4 then (quoinlaw11_RelaFields.j0 k t722 false a1_0 a1_1 a1_2 a1_3 a1_4 a2_0 a2_1 a2_2 a2_3 a2_4) else (quoinlaw11_RelaFields.j0 k t722 (bt723.1 != 8) a1_0 a1_1 a1_2 a1_3 a1_4 a2_0 a2_1 a2_2 a2_3 a2_4))))) else (if bt723.2 = 2 then (if bt723.1 = 0 then (quoinlaw11_RelaFields.j0 k t722 false a1_0 a1_1 a1_2 a1_3 a1_4 a2_0 a2_1 a2_2 a2_3 a2_4) else (none)) else (none)))) = some r := H
 have A4 := Aside0.mk A40
 clear A40
 replace H := Option.bind_eq_some_iff.mp H
 obtain ⟨⟨t723, t724⟩, A50, H⟩ := H
 replace H : (if t724 = 0 then (if t723 = 0 then (quoinlaw11_RelaFields.j0 k t722 false a1_0 a1_1 a1_2 a1_3 a1_4 a2_0 a2_1 a2_2 a2_3 a2_4) else (if t723 = 1 then (quoinlaw11_RelaFields.j0 k t722 false a1_0 a1_1 a1_2 a1_3 a1_4 a2_0 a2_1 a2_2 a2_3 a2_4) else (if t723 = 2 then (quoinlaw11_RelaFields.j0 k t722 false a1_0 a1_1 a1_2 a1_3 a1_4 a2_0 a2_1 a2_2 a2_3 a2_4) else (if t723 = 4 then (quoinlaw11_RelaFields.j0 k t722 false a1_0 a1_1 a1_2 a1_3 a1_4 a2_0 a2_1 a2_2 a2_3 a2_4) else (quoinlaw11_RelaFields.j0 k t722 (t723 != 8) a1_0 a1_1 a1_2 a1_3 a1_4 a2_0 a2_1 a2_2 a2_3 a2_4))))) else (if t724 = 2 then (if t723 = 0 then (quoinlaw11_RelaFields.j0 k t722 false a1_0 a1_1 a1_2 a1_3 a1_4 a2_0 a2_1 a2_2 a2_3 a2_4) else (none)) else (none))) = some r := H
 have A5 := Aside0.mk A50
 clear A50
 have HC6 := Aside0.mk H
 clear H
 go_enter Try.func20, Try.ntmps20
 go_upto_region 3 with (first | ((with_reducible refine gate_dst (N := 4) rfl ?_); (try (refine gate_guard (by rfl) ?_; dsimp only)); refine box_event ?hg (N := 4) ?hd (cs := #[.int .i64 a1_0, .int .i64 a1_1, .int .u8 a1_2, .int .i64 a1_3, .int .i64 a1_4]) (t := 71) ?hr ?_; (case hd => rfl); (case hg => rfl); (case hr => first | (go_simp; done) | (go_simp; rfl)); intro gb720 hg w7 hbox hb; have n0_ := Aside0.mk (below_step (by repeat (first | (with_reducible first | exact HB.out | apply below_alloc | apply pw_below_drewN | apply below_drew1) | exact HB.out)) hb); have n1_ := Aside0.mk (hbox); have n2_ := Aside0.mk ((by rw [hg]; exact (below_size (by repeat (first | (with_reducible first | exact HB.out | apply below_alloc | apply pw_below_drewN | apply below_drew1) | exact HB.out))) : w.heap.size ≤ gb720)); have n3_ := Aside0.mk ((by rw [hg]; exact (below_size (by repeat (first | (with_reducible first | exact HB.out | apply below_alloc | apply pw_below_drewN | apply below_drew1) | exact HB.out))) : w.heap.size ≤ gb720)); clear HB; have HB := n0_; have BK720 := n1_; have GW720 := n2_; have GE720 := n3_; clear n0_ n1_ n2_ n3_; clear hb hbox hg) | ((with_reducible refine gate_dst (N := 5) rfl ?_); (try (refine gate_guard (by rfl) ?_; dsimp only)); refine box_event ?hg (N := 5) ?hd (cs := #[.int .i64 a2_0, .int .i64 a2_1, .int .u8 a2_2, .int .i64 a2_3, .int .i64 a2_4]) (t := 71) ?hr ?_; (case hd => rfl); (case hg => rfl); (case hr => first | (go_simp; done) | (go_simp; rfl)); intro gb721 hg w8 hbox hb; have n0_ := Aside0.mk (blk_below (g := gb720) (o := .cells #[.int .i64 a1_0, .int .i64 a1_1, .int .u8 a1_2, .int .i64 a1_3, .int .i64 a1_4] 71 (0, 0)) (by (with_reducible repeat (first | refine blk_drewN ?_ _ | refine blk_drew ?_ | refine blk_alloc ?_ _)); exact BK720.out) hb); have n1_ := Aside0.mk (below_step (by repeat (first | (with_reducible first | exact HB.out | apply below_alloc | apply pw_below_drewN | apply below_drew1 | refine below_set ?_ GE720.out) | exact HB.out)) hb); have n2_ := Aside0.mk (hbox); have n3_ := Aside0.mk ((by rw [hg]; exact (below_size (by repeat (first | (with_reducible first | exact HB.out | apply below_alloc | apply pw_below_drewN | apply below_drew1 | refine below_set ?_ GE720.out) | exact HB.out))) : w.heap.size ≤ gb721)); have n4_ := Aside0.mk ((by rw [hg]; exact (below_size (by repeat (first | (with_reducible first | exact HB.out | apply below_alloc | apply pw_below_drewN | apply below_drew1 | refine below_set ?_ GE720.out) | exact HB.out))) : w.heap.size ≤ gb721)); have n5_ := Aside0.mk ((by rw [hg]; exact Nat.ne_of_lt (blk_lt (g := gb720) (o := .cells #[.int .i64 a1_0, .int .i64 a1_1, .int .u8 a1_2, .int .i64 a1_3, .int .i64 a1_4] 71 (0, 0)) (by (with_reducible repeat (first | refine blk_drewN ?_ _ | refine blk_drew ?_ | refine blk_alloc ?_ _)); exact BK720.out)) : gb720 ≠ gb721)); have n6_ := Aside0.mk ((by rw [hg]; exact Nat.ne_of_gt (blk_lt (g := gb720) (o := .cells #[.int .i64 a1_0, .int .i64 a1_1, .int .u8 a1_2, .int .i64 a1_3, .int .i64 a1_4] 71 (0, 0)) (by (with_reducible repeat (first | refine blk_drewN ?_ _ | refine blk_drew ?_ | refine blk_alloc ?_ _)); exact BK720.out)) : gb721 ≠ gb720)); clear BK720; clear HB; have BK720 := n0_; have HB := n1_; have BK721 := n2_; have GW721 := n3_; have GE721 := n4_; have NB720_721 := n5_; have NB721_720 := n6_; clear n0_ n1_ n2_ n3_ n4_ n5_ n6_; clear hb hbox hg) | (go_at_call 52; (with_reducible refine (quoinlaw11_alive.calls k  t722 _ A4.out).mono ?_); rintro e w9 ⟨rfl, hb⟩; have n0_ := Aside0.mk (blk_below (g := gb720) (o := .cells #[.int .i64 a1_0, .int .i64 a1_1, .int .u8 a1_2, .int .i64 a1_3, .int .i64 a1_4] 71 (0, 0)) (by (with_reducible repeat (first | refine blk_drewN ?_ _ | refine blk_drew ?_ | refine blk_alloc ?_ _)); exact BK720.out) hb); have n1_ := Aside0.mk (blk_below (g := gb721) (o := .cells #[.int .i64 a2_0, .int .i64 a2_1, .int .u8 a2_2, .int .i64 a2_3, .int .i64 a2_4] 71 (0, 0)) (by (with_reducible repeat (first | refine blk_drewN ?_ _ | refine blk_drew ?_ | refine blk_alloc ?_ _)); exact BK721.out) hb); have n2_ := Aside0.mk (below_step (by repeat (first | (with_reducible first | exact HB.out | apply below_alloc | apply pw_below_drewN | apply below_drew1 | refine below_set ?_ GE720.out | refine below_set ?_ GE721.out) | exact HB.out)) hb); clear BK720; clear BK721; clear HB; have BK720 := n0_; have BK721 := n1_; have HB := n2_; clear n0_ n1_ n2_; (try clear hb); (try clear hb2); (try clear hk); (try clear hi)) | (go_at_call 55; (with_reducible refine (rela_Field.calls k a0 t723 t724 _ A5.out).mono ?_); rintro e w' ⟨rfl, ⟨nd, rfl⟩⟩; (try first | exact ⟨rfl, _, World.drewN_drewN _ _ _⟩ | exact ⟨rfl, _, Eq.trans (World.drewN_drewN _ _ _) (congrArg (World.drewN _) (Nat.add_assoc _ _ _))⟩)))
 repeat (go_quiet (first | ((with_reducible refine gate_dst (N := 4) rfl ?_); (try (refine gate_guard (by rfl) ?_; dsimp only)); refine box_event ?hg (N := 4) ?hd (cs := #[.int .i64 a1_0, .int .i64 a1_1, .int .u8 a1_2, .int .i64 a1_3, .int .i64 a1_4]) (t := 71) ?hr ?_; (case hd => rfl); (case hg => rfl); (case hr => first | (go_simp; done) | (go_simp; rfl)); intro gb720 hg w7 hbox hb; have n0_ := Aside0.mk (below_step (by repeat (first | (with_reducible first | exact HB.out | apply below_alloc | apply pw_below_drewN | apply below_drew1) | exact HB.out)) hb); have n1_ := Aside0.mk (hbox); have n2_ := Aside0.mk ((by rw [hg]; exact (below_size (by repeat (first | (with_reducible first | exact HB.out | apply below_alloc | apply pw_below_drewN | apply below_drew1) | exact HB.out))) : w.heap.size ≤ gb720)); have n3_ := Aside0.mk ((by rw [hg]; exact (below_size (by repeat (first | (with_reducible first | exact HB.out | apply below_alloc | apply pw_below_drewN | apply below_drew1) | exact HB.out))) : w.heap.size ≤ gb720)); clear HB; have HB := n0_; have BK720 := n1_; have GW720 := n2_; have GE720 := n3_; clear n0_ n1_ n2_ n3_; clear hb hbox hg) | ((with_reducible refine gate_dst (N := 5) rfl ?_); (try (refine gate_guard (by rfl) ?_; dsimp only)); refine box_event ?hg (N := 5) ?hd (cs := #[.int .i64 a2_0, .int .i64 a2_1, .int .u8 a2_2, .int .i64 a2_3, .int .i64 a2_4]) (t := 71) ?hr ?_; (case hd => rfl); (case hg => rfl); (case hr => first | (go_simp; done) | (go_simp; rfl)); intro gb721 hg w8 hbox hb; have n0_ := Aside0.mk (blk_below (g := gb720) (o := .cells #[.int .i64 a1_0, .int .i64 a1_1, .int .u8 a1_2, .int .i64 a1_3, .int .i64 a1_4] 71 (0, 0)) (by (with_reducible repeat (first | refine blk_drewN ?_ _ | refine blk_drew ?_ | refine blk_alloc ?_ _)); exact BK720.out) hb); have n1_ := Aside0.mk (below_step (by repeat (first | (with_reducible first | exact HB.out | apply below_alloc | apply pw_below_drewN | apply below_drew1 | refine below_set ?_ GE720.out) | exact HB.out)) hb); have n2_ := Aside0.mk (hbox); have n3_ := Aside0.mk ((by rw [hg]; exact (below_size (by repeat (first | (with_reducible first | exact HB.out | apply below_alloc | apply pw_below_drewN | apply below_drew1 | refine below_set ?_ GE720.out) | exact HB.out))) : w.heap.size ≤ gb721)); have n4_ := Aside0.mk ((by rw [hg]; exact (below_size (by repeat (first | (with_reducible first | exact HB.out | apply below_alloc | apply pw_below_drewN | apply below_drew1 | refine below_set ?_ GE720.out) | exact HB.out))) : w.heap.size ≤ gb721)); have n5_ := Aside0.mk ((by rw [hg]; exact Nat.ne_of_lt (blk_lt (g := gb720) (o := .cells #[.int .i64 a1_0, .int .i64 a1_1, .int .u8 a1_2, .int .i64 a1_3, .int .i64 a1_4] 71 (0, 0)) (by (with_reducible repeat (first | refine blk_drewN ?_ _ | refine blk_drew ?_ | refine blk_alloc ?_ _)); exact BK720.out)) : gb720 ≠ gb721)); have n6_ := Aside0.mk ((by rw [hg]; exact Nat.ne_of_gt (blk_lt (g := gb720) (o := .cells #[.int .i64 a1_0, .int .i64 a1_1, .int .u8 a1_2, .int .i64 a1_3, .int .i64 a1_4] 71 (0, 0)) (by (with_reducible repeat (first | refine blk_drewN ?_ _ | refine blk_drew ?_ | refine blk_alloc ?_ _)); exact BK720.out)) : gb721 ≠ gb720)); clear BK720; clear HB; have BK720 := n0_; have HB := n1_; have BK721 := n2_; have GW721 := n3_; have GE721 := n4_; have NB720_721 := n5_; have NB721_720 := n6_; clear n0_ n1_ n2_ n3_ n4_ n5_ n6_; clear hb hbox hg) | (go_at_call 52; (with_reducible refine (quoinlaw11_alive.calls k  t722 _ A4.out).mono ?_); rintro e w9 ⟨rfl, hb⟩; have n0_ := Aside0.mk (blk_below (g := gb720) (o := .cells #[.int .i64 a1_0, .int .i64 a1_1, .int .u8 a1_2, .int .i64 a1_3, .int .i64 a1_4] 71 (0, 0)) (by (with_reducible repeat (first | refine blk_drewN ?_ _ | refine blk_drew ?_ | refine blk_alloc ?_ _)); exact BK720.out) hb); have n1_ := Aside0.mk (blk_below (g := gb721) (o := .cells #[.int .i64 a2_0, .int .i64 a2_1, .int .u8 a2_2, .int .i64 a2_3, .int .i64 a2_4] 71 (0, 0)) (by (with_reducible repeat (first | refine blk_drewN ?_ _ | refine blk_drew ?_ | refine blk_alloc ?_ _)); exact BK721.out) hb); have n2_ := Aside0.mk (below_step (by repeat (first | (with_reducible first | exact HB.out | apply below_alloc | apply pw_below_drewN | apply below_drew1 | refine below_set ?_ GE720.out | refine below_set ?_ GE721.out) | exact HB.out)) hb); clear BK720; clear BK721; clear HB; have BK720 := n0_; have BK721 := n1_; have HB := n2_; clear n0_ n1_ n2_; (try clear hb); (try clear hb2); (try clear hk); (try clear hi)) | (go_at_call 55; (with_reducible refine (rela_Field.calls k a0 t723 t724 _ A5.out).mono ?_); rintro e w' ⟨rfl, ⟨nd, rfl⟩⟩; (try first | exact ⟨rfl, _, World.drewN_drewN _ _ _⟩ | exact ⟨rfl, _, Eq.trans (World.drewN_drewN _ _ _) (congrArg (World.drewN _) (Nat.add_assoc _ _ _))⟩))); go_upto_region 3 with (first | ((with_reducible refine gate_dst (N := 4) rfl ?_); (try (refine gate_guard (by rfl) ?_; dsimp only)); refine box_event ?hg (N := 4) ?hd (cs := #[.int .i64 a1_0, .int .i64 a1_1, .int .u8 a1_2, .int .i64 a1_3, .int .i64 a1_4]) (t := 71) ?hr ?_; (case hd => rfl); (case hg => rfl); (case hr => first | (go_simp; done) | (go_simp; rfl)); intro gb720 hg w7 hbox hb; have n0_ := Aside0.mk (below_step (by repeat (first | (with_reducible first | exact HB.out | apply below_alloc | apply pw_below_drewN | apply below_drew1) | exact HB.out)) hb); have n1_ := Aside0.mk (hbox); have n2_ := Aside0.mk ((by rw [hg]; exact (below_size (by repeat (first | (with_reducible first | exact HB.out | apply below_alloc | apply pw_below_drewN | apply below_drew1) | exact HB.out))) : w.heap.size ≤ gb720)); have n3_ := Aside0.mk ((by rw [hg]; exact (below_size (by repeat (first | (with_reducible first | exact HB.out | apply below_alloc | apply pw_below_drewN | apply below_drew1) | exact HB.out))) : w.heap.size ≤ gb720)); clear HB; have HB := n0_; have BK720 := n1_; have GW720 := n2_; have GE720 := n3_; clear n0_ n1_ n2_ n3_; clear hb hbox hg) | ((with_reducible refine gate_dst (N := 5) rfl ?_); (try (refine gate_guard (by rfl) ?_; dsimp only)); refine box_event ?hg (N := 5) ?hd (cs := #[.int .i64 a2_0, .int .i64 a2_1, .int .u8 a2_2, .int .i64 a2_3, .int .i64 a2_4]) (t := 71) ?hr ?_; (case hd => rfl); (case hg => rfl); (case hr => first | (go_simp; done) | (go_simp; rfl)); intro gb721 hg w8 hbox hb; have n0_ := Aside0.mk (blk_below (g := gb720) (o := .cells #[.int .i64 a1_0, .int .i64 a1_1, .int .u8 a1_2, .int .i64 a1_3, .int .i64 a1_4] 71 (0, 0)) (by (with_reducible repeat (first | refine blk_drewN ?_ _ | refine blk_drew ?_ | refine blk_alloc ?_ _)); exact BK720.out) hb); have n1_ := Aside0.mk (below_step (by repeat (first | (with_reducible first | exact HB.out | apply below_alloc | apply pw_below_drewN | apply below_drew1 | refine below_set ?_ GE720.out) | exact HB.out)) hb); have n2_ := Aside0.mk (hbox); have n3_ := Aside0.mk ((by rw [hg]; exact (below_size (by repeat (first | (with_reducible first | exact HB.out | apply below_alloc | apply pw_below_drewN | apply below_drew1 | refine below_set ?_ GE720.out) | exact HB.out))) : w.heap.size ≤ gb721)); have n4_ := Aside0.mk ((by rw [hg]; exact (below_size (by repeat (first | (with_reducible first | exact HB.out | apply below_alloc | apply pw_below_drewN | apply below_drew1 | refine below_set ?_ GE720.out) | exact HB.out))) : w.heap.size ≤ gb721)); have n5_ := Aside0.mk ((by rw [hg]; exact Nat.ne_of_lt (blk_lt (g := gb720) (o := .cells #[.int .i64 a1_0, .int .i64 a1_1, .int .u8 a1_2, .int .i64 a1_3, .int .i64 a1_4] 71 (0, 0)) (by (with_reducible repeat (first | refine blk_drewN ?_ _ | refine blk_drew ?_ | refine blk_alloc ?_ _)); exact BK720.out)) : gb720 ≠ gb721)); have n6_ := Aside0.mk ((by rw [hg]; exact Nat.ne_of_gt (blk_lt (g := gb720) (o := .cells #[.int .i64 a1_0, .int .i64 a1_1, .int .u8 a1_2, .int .i64 a1_3, .int .i64 a1_4] 71 (0, 0)) (by (with_reducible repeat (first | refine blk_drewN ?_ _ | refine blk_drew ?_ | refine blk_alloc ?_ _)); exact BK720.out)) : gb721 ≠ gb720)); clear BK720; clear HB; have BK720 := n0_; have HB := n1_; have BK721 := n2_; have GW721 := n3_; have GE721 := n4_; have NB720_721 := n5_; have NB721_720 := n6_; clear n0_ n1_ n2_ n3_ n4_ n5_ n6_; clear hb hbox hg) | (go_at_call 52; (with_reducible refine (quoinlaw11_alive.calls k  t722 _ A4.out).mono ?_); rintro e w9 ⟨rfl, hb⟩; have n0_ := Aside0.mk (blk_below (g := gb720) (o := .cells #[.int .i64 a1_0, .int .i64 a1_1, .int .u8 a1_2, .int .i64 a1_3, .int .i64 a1_4] 71 (0, 0)) (by (with_reducible repeat (first | refine blk_drewN ?_ _ | refine blk_drew ?_ | refine blk_alloc ?_ _)); exact BK720.out) hb); have n1_ := Aside0.mk (blk_below (g := gb721) (o := .cells #[.int .i64 a2_0, .int .i64 a2_1, .int .u8 a2_2, .int .i64 a2_3, .int .i64 a2_4] 71 (0, 0)) (by (with_reducible repeat (first | refine blk_drewN ?_ _ | refine blk_drew ?_ | refine blk_alloc ?_ _)); exact BK721.out) hb); have n2_ := Aside0.mk (below_step (by repeat (first | (with_reducible first | exact HB.out | apply below_alloc | apply pw_below_drewN | apply below_drew1 | refine below_set ?_ GE720.out | refine below_set ?_ GE721.out) | exact HB.out)) hb); clear BK720; clear BK721; clear HB; have BK720 := n0_; have BK721 := n1_; have HB := n2_; clear n0_ n1_ n2_; (try clear hb); (try clear hb2); (try clear hk); (try clear hi)) | (go_at_call 55; (with_reducible refine (rela_Field.calls k a0 t723 t724 _ A5.out).mono ?_); rintro e w' ⟨rfl, ⟨nd, rfl⟩⟩; (try first | exact ⟨rfl, _, World.drewN_drewN _ _ _⟩ | exact ⟨rfl, _, Eq.trans (World.drewN_drewN _ _ _) (congrArg (World.drewN _) (Nat.add_assoc _ _ _))⟩))))
 (try simp only [Act.put, List.setIfInBounds_toArray, List.set_cons_zero, List.set_cons_succ])
 go_cut [56] (fun v56 wc => ∃ (kq : Nat) (x56_5 : Bool), v56 = .bool x56_5 ∧ Aside0 (quoinlaw11_RelaFields.j0 kq t722 x56_5 a1_0 a1_1 a1_2 a1_3 a1_4 a2_0 a2_1 a2_2 a2_3 a2_4 = some r) ∧ Aside0 (kq ≤ k) ∧ Aside0 (wc.heap[gb720]? = some (.cells #[.int .i64 a1_0, .int .i64 a1_1, .int .u8 a1_2, .int .i64 a1_3, .int .i64 a1_4] 71 (0, 0))) ∧ Aside0 (wc.heap[gb721]? = some (.cells #[.int .i64 a2_0, .int .i64 a2_1, .int .u8 a2_2, .int .i64 a2_3, .int .i64 a2_4] 71 (0, 0))) ∧ Aside0 (Below w.heap.size w wc))
 case first =>
  have H := HC6.out
  clear HC6
  by_cases c10 : t724 = 0
  ·
   rw [if_pos c10] at H
   have c10b0 : (t724 == 0) = true := beq_iff_eq.mpr c10
   have c10b1 : (t724 != 0) = false := bne_eq_false_iff_eq.mpr c10
   clear c10
   (first | rw [c10b0] | (simp only [i64_w, i32_w]; rw [c10b0]) | skip)
   by_cases c11 : t723 = 0
   ·
    rw [if_pos c11] at H
    have c11b0 : (t723 == 0) = true := beq_iff_eq.mpr c11
    have c11b1 : (t723 != 0) = false := bne_eq_false_iff_eq.mpr c11
    clear c11
    have H' := Aside0.mk H
    clear H
    go_wp2
    repeat (go_quiet (fail); try go_wp2)
    go_meet
    case rel => exact ⟨_, (false), (by first | rfl | (simp; done) | (simp [*]; done)), H', ⟨by first | omega | exact Nat.le_refl _⟩, ⟨by (with_reducible repeat (first | refine blk_drewN ?_ _ | refine blk_drew ?_ | refine blk_alloc ?_ _)); exact BK720.out⟩, ⟨by (with_reducible repeat (first | refine blk_drewN ?_ _ | refine blk_drew ?_ | refine blk_alloc ?_ _)); exact BK721.out⟩, ⟨by repeat (first | (with_reducible first | exact HB.out | apply below_alloc | apply pw_below_drewN | apply below_drew1 | refine below_set ?_ GE720.out | refine below_set ?_ GE721.out) | exact HB.out)⟩⟩
   ·
    rw [if_neg c11] at H
    have c11b0 : (t723 == 0) = false := beq_eq_false_iff_ne.mpr c11
    have c11b1 : (t723 != 0) = true := bne_iff_ne.mpr c11
    by_cases c12 : t723 = 1
    ·
     rw [if_pos c12] at H
     have c12b0 : (t723 == 1) = true := beq_iff_eq.mpr c12
     have c12b1 : (t723 != 1) = false := bne_eq_false_iff_eq.mpr c12
     clear c12
     have H' := Aside0.mk H
     clear H
     go_wp2
     repeat (go_quiet (fail); try go_wp2)
     go_meet
     case rel => exact ⟨_, (false), (by first | rfl | (simp; done) | (simp [*]; done)), H', ⟨by first | omega | exact Nat.le_refl _⟩, ⟨by (with_reducible repeat (first | refine blk_drewN ?_ _ | refine blk_drew ?_ | refine blk_alloc ?_ _)); exact BK720.out⟩, ⟨by (with_reducible repeat (first | refine blk_drewN ?_ _ | refine blk_drew ?_ | refine blk_alloc ?_ _)); exact BK721.out⟩, ⟨by repeat (first | (with_reducible first | exact HB.out | apply below_alloc | apply pw_below_drewN | apply below_drew1 | refine below_set ?_ GE720.out | refine below_set ?_ GE721.out) | exact HB.out)⟩⟩
    ·
     rw [if_neg c12] at H
     have c12b0 : (t723 == 1) = false := beq_eq_false_iff_ne.mpr c12
     have c12b1 : (t723 != 1) = true := bne_iff_ne.mpr c12
     by_cases c13 : t723 = 2
     ·
      rw [if_pos c13] at H
      have c13b0 : (t723 == 2) = true := beq_iff_eq.mpr c13
      have c13b1 : (t723 != 2) = false := bne_eq_false_iff_eq.mpr c13
      clear c13
      have H' := Aside0.mk H
      clear H
      go_wp2
      repeat (go_quiet (fail); try go_wp2)
      go_meet
      case rel => exact ⟨_, (false), (by first | rfl | (simp; done) | (simp [*]; done)), H', ⟨by first | omega | exact Nat.le_refl _⟩, ⟨by (with_reducible repeat (first | refine blk_drewN ?_ _ | refine blk_drew ?_ | refine blk_alloc ?_ _)); exact BK720.out⟩, ⟨by (with_reducible repeat (first | refine blk_drewN ?_ _ | refine blk_drew ?_ | refine blk_alloc ?_ _)); exact BK721.out⟩, ⟨by repeat (first | (with_reducible first | exact HB.out | apply below_alloc | apply pw_below_drewN | apply below_drew1 | refine below_set ?_ GE720.out | refine below_set ?_ GE721.out) | exact HB.out)⟩⟩
     ·
      rw [if_neg c13] at H
      have c13b0 : (t723 == 2) = false := beq_eq_false_iff_ne.mpr c13
      have c13b1 : (t723 != 2) = true := bne_iff_ne.mpr c13
      by_cases c14 : t723 = 4
      ·
       rw [if_pos c14] at H
       have c14b0 : (t723 == 4) = true := beq_iff_eq.mpr c14
       have c14b1 : (t723 != 4) = false := bne_eq_false_iff_eq.mpr c14
       clear c14
       have H' := Aside0.mk H
       clear H
       go_wp2
       repeat (go_quiet (fail); try go_wp2)
       go_meet
       case rel => exact ⟨_, (false), (by first | rfl | (simp; done) | (simp [*]; done)), H', ⟨by first | omega | exact Nat.le_refl _⟩, ⟨by (with_reducible repeat (first | refine blk_drewN ?_ _ | refine blk_drew ?_ | refine blk_alloc ?_ _)); exact BK720.out⟩, ⟨by (with_reducible repeat (first | refine blk_drewN ?_ _ | refine blk_drew ?_ | refine blk_alloc ?_ _)); exact BK721.out⟩, ⟨by repeat (first | (with_reducible first | exact HB.out | apply below_alloc | apply pw_below_drewN | apply below_drew1 | refine below_set ?_ GE720.out | refine below_set ?_ GE721.out) | exact HB.out)⟩⟩
      ·
       rw [if_neg c14] at H
       have c14b0 : (t723 == 4) = false := beq_eq_false_iff_ne.mpr c14
       have c14b1 : (t723 != 4) = true := bne_iff_ne.mpr c14
       have H' := Aside0.mk H
       clear H
       go_wp2
       repeat (go_quiet (fail); try go_wp2)
       go_meet
       case rel => exact ⟨_, ((t723 != 8)), (by first | rfl | (simp; done) | (simp [*]; done)), H', ⟨by first | omega | exact Nat.le_refl _⟩, ⟨by (with_reducible repeat (first | refine blk_drewN ?_ _ | refine blk_drew ?_ | refine blk_alloc ?_ _)); exact BK720.out⟩, ⟨by (with_reducible repeat (first | refine blk_drewN ?_ _ | refine blk_drew ?_ | refine blk_alloc ?_ _)); exact BK721.out⟩, ⟨by repeat (first | (with_reducible first | exact HB.out | apply below_alloc | apply pw_below_drewN | apply below_drew1 | refine below_set ?_ GE720.out | refine below_set ?_ GE721.out) | exact HB.out)⟩⟩
  ·
   rw [if_neg c10] at H
   have c10b0 : (t724 == 0) = false := beq_eq_false_iff_ne.mpr c10
   have c10b1 : (t724 != 0) = true := bne_iff_ne.mpr c10
   (first | rw [c10b0] | (simp only [i64_w, i32_w]; rw [c10b0]) | skip)
   by_cases c15 : t724 = 2
   ·
    rw [if_pos c15] at H
    have c15b0 : (t724 == 2) = true := beq_iff_eq.mpr c15
    have c15b1 : (t724 != 2) = false := bne_eq_false_iff_eq.mpr c15
    clear c15
    by_cases c16 : t723 = 0
    ·
     rw [if_pos c16] at H
     have c16b0 : (t723 == 0) = true := beq_iff_eq.mpr c16
     have c16b1 : (t723 != 0) = false := bne_eq_false_iff_eq.mpr c16
     clear c16
     have H' := Aside0.mk H
     clear H
     go_wp2
     repeat (go_quiet (fail); try go_wp2)
     go_meet
     case rel => exact ⟨_, (false), (by first | rfl | (simp; done) | (simp [*]; done)), H', ⟨by first | omega | exact Nat.le_refl _⟩, ⟨by (with_reducible repeat (first | refine blk_drewN ?_ _ | refine blk_drew ?_ | refine blk_alloc ?_ _)); exact BK720.out⟩, ⟨by (with_reducible repeat (first | refine blk_drewN ?_ _ | refine blk_drew ?_ | refine blk_alloc ?_ _)); exact BK721.out⟩, ⟨by repeat (first | (with_reducible first | exact HB.out | apply below_alloc | apply pw_below_drewN | apply below_drew1 | refine below_set ?_ GE720.out | refine below_set ?_ GE721.out) | exact HB.out)⟩⟩
    ·
     rw [if_neg c16] at H
     exact absurd H (by simp)
   ·
    rw [if_neg c15] at H
    exact absurd H (by simp)
 case rest =>
  clear HC6
  try clear c1
  try clear c2
  try clear p2
  try clear c10
  try clear c10b0
  try clear c10b1
  try clear c11
  try clear c11b0
  try clear c11b1
  try clear c12
  try clear c12b0
  try clear c12b1
  try clear c13
  try clear c13b0
  try clear c13b1
  try clear c14
  try clear c14b0
  try clear c14b1
  try clear c15
  try clear c15b0
  try clear c15b1
  try clear c16
  try clear c16b0
  try clear c16b1
  obtain ⟨kq, x56_5, rfl, HA, HJ5, BK720, BK721, HB⟩ := hcut
  cases kq with
  | zero => exact absurd HA.out (by simp [quoinlaw11_RelaFields.j0])
  | succ kj5 =>
   have H := HA.out
   clear HA
   simp only [quoinlaw11_RelaFields.j0] at H
   by_cases c17 : x56_5 = true
   ·
    subst c17
    have H1 : (none) = some r := by rw [if_pos rfl] at H; exact H
    clear H
    have H := H1
    clear H1
    exact absurd H (by simp)
   ·
    replace c17 := Bool.eq_false_iff.mpr c17
    subst c17
    have H1 : ((rela_Write.f kj5 a1_0 a1_1 a1_2 a1_3 a1_4).bind fun bt725 => ((rela_Write.f kj5 a2_0 a2_1 a2_2 a2_3 a2_4).bind fun bt729 => ((rela_Field.f kj5 a1_2).bind fun bt733 => (if bt733.2 = 0 then (if a1_1 ≥ 0 then (if a1_1 ≤ 4096 then (if a1_3 ≥ (-1) then (if a1_3 ≤ 63 then (if a1_4 ≥ (-2147483648) then (quoinlaw11_RelaFields.j1 kj5 t722 bt725.1 bt725.2 bt729.1 bt729.2 (decide (a1_4 < 4294967296)) a1_0 a1_1 a1_2 a1_3 a1_4 a2_0 a2_1 a2_2 a2_3 a2_4) else (quoinlaw11_RelaFields.j1 kj5 t722 bt725.1 bt725.2 bt729.1 bt729.2 false a1_0 a1_1 a1_2 a1_3 a1_4 a2_0 a2_1 a2_2 a2_3 a2_4)) else (quoinlaw11_RelaFields.j1 kj5 t722 bt725.1 bt725.2 bt729.1 bt729.2 false a1_0 a1_1 a1_2 a1_3 a1_4 a2_0 a2_1 a2_2 a2_3 a2_4)) else (quoinlaw11_RelaFields.j1 kj5 t722 bt725.1 bt725.2 bt729.1 bt729.2 false a1_0 a1_1 a1_2 a1_3 a1_4 a2_0 a2_1 a2_2 a2_3 a2_4)) else (quoinlaw11_RelaFields.j1 kj5 t722 bt725.1 bt725.2 bt729.1 bt729.2 false a1_0 a1_1 a1_2 a1_3 a1_4 a2_0 a2_1 a2_2 a2_3 a2_4)) else (quoinlaw11_RelaFields.j1 kj5 t722 bt725.1 bt725.2 bt729.1 bt729.2 false a1_0 a1_1 a1_2 a1_3 a1_4 a2_0 a2_1 a2_2 a2_3 a2_4)) else (quoinlaw11_RelaFields.j1 kj5 t722 bt725.1 bt725.2 bt729.1 bt729.2 false a1_0 a1_1 a1_2 a1_3 a1_4 a2_0 a2_1 a2_2 a2_3 a2_4))))) = some r := by rw [if_neg (show ¬ (false = true) by decide)] at H; exact H
    clear H
    have H := H1
    clear H1
    replace H := Option.bind_eq_some_iff.mp H
    obtain ⟨⟨t725, t728⟩, A180, H⟩ := H
    replace H : ((rela_Write.f kj5 a2_0 a2_1 a2_2 a2_3 a2_4).bind fun bt729 => ((rela_Field.f kj5 a1_2).bind fun bt733 => (if bt733.2 = 0 then (if a1_1 ≥ 0 then (if a1_1 ≤ 4096 then (if a1_3 ≥ (-1) then (if a1_3 ≤ 63 then (if a1_4 ≥ (-2147483648) then (quoinlaw11_RelaFields.j1 kj5 t722 t725 t728 bt729.1 bt729.2 (decide (a1_4 < 4294967296)) a1_0 a1_1 a1_2 a1_3 a1_4 a2_0 a2_1 a2_2 a2_3 a2_4) else (quoinlaw11_RelaFields.j1 kj5 t722 t725 t728 bt729.1 bt729.2 false a1_0 a1_1 a1_2 a1_3 a1_4 a2_0 a2_1 a2_2 a2_3 a2_4)) else (quoinlaw11_RelaFields.j1 kj5 t722 t725 t728 bt729.1 bt729.2 false a1_0 a1_1 a1_2 a1_3 a1_4 a2_0 a2_1 a2_2 a2_3 a2_4)) else (quoinlaw11_RelaFields.j1 kj5 t722 t725 t728 bt729.1 bt729.2 false a1_0 a1_1 a1_2 a1_3 a1_4 a2_0 a2_1 a2_2 a2_3 a2_4)) else (quoinlaw11_RelaFields.j1 kj5 t722 t725 t728 bt729.1 bt729.2 false a1_0 a1_1 a1_2 a1_3 a1_4 a2_0 a2_1 a2_2 a2_3 a2_4)) else (quoinlaw11_RelaFields.j1 kj5 t722 t725 t728 bt729.1 bt729.2 false a1_0 a1_1 a1_2 a1_3 a1_4 a2_0 a2_1 a2_2 a2_3 a2_4)) else (quoinlaw11_RelaFields.j1 kj5 t722 t725 t728 bt729.1 bt729.2 false a1_0 a1_1 a1_2 a1_3 a1_4 a2_0 a2_1 a2_2 a2_3 a2_4)))) = some r := H
    have A18 := Aside0.mk A180
    clear A180
    replace H := Option.bind_eq_some_iff.mp H
    obtain ⟨⟨t729, t732⟩, A190, H⟩ := H
    replace H : ((rela_Field.f kj5 a1_2).bind fun bt733 => (if bt733.2 = 0 then (if a1_1 ≥ 0 then (if a1_1 ≤ 4096 then (if a1_3 ≥ (-1) then (if a1_3 ≤ 63 then (if a1_4 ≥ (-2147483648) then (quoinlaw11_RelaFields.j1 kj5 t722 t725 t728 t729 t732 (decide (a1_4 < 4294967296)) a1_0 a1_1 a1_2 a1_3 a1_4 a2_0 a2_1 a2_2 a2_3 a2_4) else (quoinlaw11_RelaFields.j1 kj5 t722 t725 t728 t729 t732 false a1_0 a1_1 a1_2 a1_3 a1_4 a2_0 a2_1 a2_2 a2_3 a2_4)) else (quoinlaw11_RelaFields.j1 kj5 t722 t725 t728 t729 t732 false a1_0 a1_1 a1_2 a1_3 a1_4 a2_0 a2_1 a2_2 a2_3 a2_4)) else (quoinlaw11_RelaFields.j1 kj5 t722 t725 t728 t729 t732 false a1_0 a1_1 a1_2 a1_3 a1_4 a2_0 a2_1 a2_2 a2_3 a2_4)) else (quoinlaw11_RelaFields.j1 kj5 t722 t725 t728 t729 t732 false a1_0 a1_1 a1_2 a1_3 a1_4 a2_0 a2_1 a2_2 a2_3 a2_4)) else (quoinlaw11_RelaFields.j1 kj5 t722 t725 t728 t729 t732 false a1_0 a1_1 a1_2 a1_3 a1_4 a2_0 a2_1 a2_2 a2_3 a2_4)) else (quoinlaw11_RelaFields.j1 kj5 t722 t725 t728 t729 t732 false a1_0 a1_1 a1_2 a1_3 a1_4 a2_0 a2_1 a2_2 a2_3 a2_4))) = some r := H
    have A19 := Aside0.mk A190
    clear A190
    replace H := Option.bind_eq_some_iff.mp H
    obtain ⟨⟨t733, t734⟩, A200, H⟩ := H
    replace H : (if t734 = 0 then (if a1_1 ≥ 0 then (if a1_1 ≤ 4096 then (if a1_3 ≥ (-1) then (if a1_3 ≤ 63 then (if a1_4 ≥ (-2147483648) then (quoinlaw11_RelaFields.j1 kj5 t722 t725 t728 t729 t732 (decide (a1_4 < 4294967296)) a1_0 a1_1 a1_2 a1_3 a1_4 a2_0 a2_1 a2_2 a2_3 a2_4) else (quoinlaw11_RelaFields.j1 kj5 t722 t725 t728 t729 t732 false a1_0 a1_1 a1_2 a1_3 a1_4 a2_0 a2_1 a2_2 a2_3 a2_4)) else (quoinlaw11_RelaFields.j1 kj5 t722 t725 t728 t729 t732 false a1_0 a1_1 a1_2 a1_3 a1_4 a2_0 a2_1 a2_2 a2_3 a2_4)) else (quoinlaw11_RelaFields.j1 kj5 t722 t725 t728 t729 t732 false a1_0 a1_1 a1_2 a1_3 a1_4 a2_0 a2_1 a2_2 a2_3 a2_4)) else (quoinlaw11_RelaFields.j1 kj5 t722 t725 t728 t729 t732 false a1_0 a1_1 a1_2 a1_3 a1_4 a2_0 a2_1 a2_2 a2_3 a2_4)) else (quoinlaw11_RelaFields.j1 kj5 t722 t725 t728 t729 t732 false a1_0 a1_1 a1_2 a1_3 a1_4 a2_0 a2_1 a2_2 a2_3 a2_4)) else (quoinlaw11_RelaFields.j1 kj5 t722 t725 t728 t729 t732 false a1_0 a1_1 a1_2 a1_3 a1_4 a2_0 a2_1 a2_2 a2_3 a2_4)) = some r := H
    have A20 := Aside0.mk A200
    clear A200
    have HC21 := Aside0.mk H
    clear H
    have hnb22 := NB720_721.out
    have hnc22 := NB721_720.out
    have hcz23_0 : wc.cell? ⟨gb720, 0, none⟩ = some (.int .i64 a1_0) := (blk_cell BK720.out 0).trans rfl
    have hcz23_1 : wc.cell? ⟨gb720, 1, none⟩ = some (.int .i64 a1_1) := (blk_cell BK720.out 1).trans rfl
    have hcz23_2 : wc.cell? ⟨gb720, 2, none⟩ = some (.int .u8 a1_2) := (blk_cell BK720.out 2).trans rfl
    have hcz23_3 : wc.cell? ⟨gb720, 3, none⟩ = some (.int .i64 a1_3) := (blk_cell BK720.out 3).trans rfl
    have hcz23_4 : wc.cell? ⟨gb720, 4, none⟩ = some (.int .i64 a1_4) := (blk_cell BK720.out 4).trans rfl
    have hfz23_0 := blk_frozen BK720.out 0
    have hfz23_1 := blk_frozen BK720.out 1
    have hfz23_2 := blk_frozen BK720.out 2
    have hfz23_3 := blk_frozen BK720.out 3
    have hfz23_4 := blk_frozen BK720.out 4
    go_upto_region 8 with (first | (go_at_call 56; (with_reducible refine (rela_Write.calls kj5 a1_0 a1_1 a1_2 a1_3 a1_4 t725 t728 _ A18.out).mono ?_); rintro e w24 ⟨v726, rfl, ho0, hb⟩; have n0_ := Aside0.mk (Kd.R_lower ho0 (below_size (by repeat (first | (with_reducible first | exact HB.out | apply below_alloc | apply pw_below_drewN | apply below_drew1 | refine below_set ?_ GE720.out | refine below_set ?_ GE721.out) | exact HB.out)))); have n1_ := Aside0.mk (blk_below (g := gb720) (o := .cells #[.int .i64 a1_0, .int .i64 a1_1, .int .u8 a1_2, .int .i64 a1_3, .int .i64 a1_4] 71 (0, 0)) (by (with_reducible repeat (first | refine blk_drewN ?_ _ | refine blk_drew ?_ | refine blk_alloc ?_ _)); exact BK720.out) hb); have n2_ := Aside0.mk (blk_below (g := gb721) (o := .cells #[.int .i64 a2_0, .int .i64 a2_1, .int .u8 a2_2, .int .i64 a2_3, .int .i64 a2_4] 71 (0, 0)) (by (with_reducible repeat (first | refine blk_drewN ?_ _ | refine blk_drew ?_ | refine blk_alloc ?_ _)); exact BK721.out) hb); have n3_ := Aside0.mk (below_step (by repeat (first | (with_reducible first | exact HB.out | apply below_alloc | apply pw_below_drewN | apply below_drew1 | refine below_set ?_ GE720.out | refine below_set ?_ GE721.out) | exact HB.out)) hb); clear BK720; clear BK721; clear HB; have HO727 := n0_; have BK720 := n1_; have BK721 := n2_; have HB := n3_; clear n0_ n1_ n2_ n3_; (try clear hb); (try clear hb2); (try clear hk); (try clear hi); (try clear ho0); have hcz25_0 : w24.cell? ⟨gb721, 0, none⟩ = some (.int .i64 a2_0) := (blk_cell BK721.out 0).trans rfl; have hcz25_1 : w24.cell? ⟨gb721, 1, none⟩ = some (.int .i64 a2_1) := (blk_cell BK721.out 1).trans rfl; have hcz25_2 : w24.cell? ⟨gb721, 2, none⟩ = some (.int .u8 a2_2) := (blk_cell BK721.out 2).trans rfl; have hcz25_3 : w24.cell? ⟨gb721, 3, none⟩ = some (.int .i64 a2_3) := (blk_cell BK721.out 3).trans rfl; have hcz25_4 : w24.cell? ⟨gb721, 4, none⟩ = some (.int .i64 a2_4) := (blk_cell BK721.out 4).trans rfl; have hfz25_0 := blk_frozen BK721.out 0; have hfz25_1 := blk_frozen BK721.out 1; have hfz25_2 := blk_frozen BK721.out 2; have hfz25_3 := blk_frozen BK721.out 3; have hfz25_4 := blk_frozen BK721.out 4) | (go_at_call 56; (with_reducible refine (rela_Write.calls kj5 a2_0 a2_1 a2_2 a2_3 a2_4 t729 t732 _ A19.out).mono ?_); rintro e w26 ⟨v730, rfl, ho0, hb⟩; have n0_ := Aside0.mk (Kd.R_elder' (by (with_reducible repeat (first | apply Kd.R_alloc | apply Kd.R_drewN | apply Kd.R_drew)); exact HO727.out) (Kd.R_base ho0) hb); have n1_ := Aside0.mk (Kd.R_lower (Kd.R_new' ho0 (Kd.R_lt (by (with_reducible repeat (first | apply Kd.R_alloc | apply Kd.R_drewN | apply Kd.R_drew)); exact HO727.out))) (below_size (by repeat (first | (with_reducible first | exact HB.out | apply below_alloc | apply pw_below_drewN | apply below_drew1 | refine below_set ?_ GE720.out | refine below_set ?_ GE721.out) | exact HB.out)))); have n2_ := Aside0.mk (blk_below (g := gb720) (o := .cells #[.int .i64 a1_0, .int .i64 a1_1, .int .u8 a1_2, .int .i64 a1_3, .int .i64 a1_4] 71 (0, 0)) (by (with_reducible repeat (first | refine blk_drewN ?_ _ | refine blk_drew ?_ | refine blk_alloc ?_ _)); exact BK720.out) hb); have n3_ := Aside0.mk (blk_below (g := gb721) (o := .cells #[.int .i64 a2_0, .int .i64 a2_1, .int .u8 a2_2, .int .i64 a2_3, .int .i64 a2_4] 71 (0, 0)) (by (with_reducible repeat (first | refine blk_drewN ?_ _ | refine blk_drew ?_ | refine blk_alloc ?_ _)); exact BK721.out) hb); have n4_ := Aside0.mk (below_step (by repeat (first | (with_reducible first | exact HB.out | apply below_alloc | apply pw_below_drewN | apply below_drew1 | refine below_set ?_ GE720.out | refine below_set ?_ GE721.out) | exact HB.out)) hb); clear HO727; clear BK720; clear BK721; clear HB; have HO727 := n0_; have HO731 := n1_; have BK720 := n2_; have BK721 := n3_; have HB := n4_; clear n0_ n1_ n2_ n3_ n4_; (try clear hb); (try clear hb2); (try clear hk); (try clear hi); (try clear ho0); have hcz27_0 : w26.cell? ⟨gb720, 0, none⟩ = some (.int .i64 a1_0) := (blk_cell BK720.out 0).trans rfl; have hcz27_1 : w26.cell? ⟨gb720, 1, none⟩ = some (.int .i64 a1_1) := (blk_cell BK720.out 1).trans rfl; have hcz27_2 : w26.cell? ⟨gb720, 2, none⟩ = some (.int .u8 a1_2) := (blk_cell BK720.out 2).trans rfl; have hcz27_3 : w26.cell? ⟨gb720, 3, none⟩ = some (.int .i64 a1_3) := (blk_cell BK720.out 3).trans rfl; have hcz27_4 : w26.cell? ⟨gb720, 4, none⟩ = some (.int .i64 a1_4) := (blk_cell BK720.out 4).trans rfl; have hfz27_0 := blk_frozen BK720.out 0; have hfz27_1 := blk_frozen BK720.out 1; have hfz27_2 := blk_frozen BK720.out 2; have hfz27_3 := blk_frozen BK720.out 3; have hfz27_4 := blk_frozen BK720.out 4) | (go_at_call 55; (with_reducible refine (rela_Field.calls kj5 a1_2 t733 t734 _ A20.out).mono ?_); rintro e w' ⟨rfl, ⟨nd, rfl⟩⟩; (try first | exact ⟨rfl, _, World.drewN_drewN _ _ _⟩ | exact ⟨rfl, _, Eq.trans (World.drewN_drewN _ _ _) (congrArg (World.drewN _) (Nat.add_assoc _ _ _))⟩)))
    repeat (go_quiet (first | (go_at_call 56; (with_reducible refine (rela_Write.calls kj5 a1_0 a1_1 a1_2 a1_3 a1_4 t725 t728 _ A18.out).mono ?_); rintro e w24 ⟨v726, rfl, ho0, hb⟩; have n0_ := Aside0.mk (Kd.R_lower ho0 (below_size (by repeat (first | (with_reducible first | exact HB.out | apply below_alloc | apply pw_below_drewN | apply below_drew1 | refine below_set ?_ GE720.out | refine below_set ?_ GE721.out) | exact HB.out)))); have n1_ := Aside0.mk (blk_below (g := gb720) (o := .cells #[.int .i64 a1_0, .int .i64 a1_1, .int .u8 a1_2, .int .i64 a1_3, .int .i64 a1_4] 71 (0, 0)) (by (with_reducible repeat (first | refine blk_drewN ?_ _ | refine blk_drew ?_ | refine blk_alloc ?_ _)); exact BK720.out) hb); have n2_ := Aside0.mk (blk_below (g := gb721) (o := .cells #[.int .i64 a2_0, .int .i64 a2_1, .int .u8 a2_2, .int .i64 a2_3, .int .i64 a2_4] 71 (0, 0)) (by (with_reducible repeat (first | refine blk_drewN ?_ _ | refine blk_drew ?_ | refine blk_alloc ?_ _)); exact BK721.out) hb); have n3_ := Aside0.mk (below_step (by repeat (first | (with_reducible first | exact HB.out | apply below_alloc | apply pw_below_drewN | apply below_drew1 | refine below_set ?_ GE720.out | refine below_set ?_ GE721.out) | exact HB.out)) hb); clear BK720; clear BK721; clear HB; have HO727 := n0_; have BK720 := n1_; have BK721 := n2_; have HB := n3_; clear n0_ n1_ n2_ n3_; (try clear hb); (try clear hb2); (try clear hk); (try clear hi); (try clear ho0); have hcz25_0 : w24.cell? ⟨gb721, 0, none⟩ = some (.int .i64 a2_0) := (blk_cell BK721.out 0).trans rfl; have hcz25_1 : w24.cell? ⟨gb721, 1, none⟩ = some (.int .i64 a2_1) := (blk_cell BK721.out 1).trans rfl; have hcz25_2 : w24.cell? ⟨gb721, 2, none⟩ = some (.int .u8 a2_2) := (blk_cell BK721.out 2).trans rfl; have hcz25_3 : w24.cell? ⟨gb721, 3, none⟩ = some (.int .i64 a2_3) := (blk_cell BK721.out 3).trans rfl; have hcz25_4 : w24.cell? ⟨gb721, 4, none⟩ = some (.int .i64 a2_4) := (blk_cell BK721.out 4).trans rfl; have hfz25_0 := blk_frozen BK721.out 0; have hfz25_1 := blk_frozen BK721.out 1; have hfz25_2 := blk_frozen BK721.out 2; have hfz25_3 := blk_frozen BK721.out 3; have hfz25_4 := blk_frozen BK721.out 4) | (go_at_call 56; (with_reducible refine (rela_Write.calls kj5 a2_0 a2_1 a2_2 a2_3 a2_4 t729 t732 _ A19.out).mono ?_); rintro e w26 ⟨v730, rfl, ho0, hb⟩; have n0_ := Aside0.mk (Kd.R_elder' (by (with_reducible repeat (first | apply Kd.R_alloc | apply Kd.R_drewN | apply Kd.R_drew)); exact HO727.out) (Kd.R_base ho0) hb); have n1_ := Aside0.mk (Kd.R_lower (Kd.R_new' ho0 (Kd.R_lt (by (with_reducible repeat (first | apply Kd.R_alloc | apply Kd.R_drewN | apply Kd.R_drew)); exact HO727.out))) (below_size (by repeat (first | (with_reducible first | exact HB.out | apply below_alloc | apply pw_below_drewN | apply below_drew1 | refine below_set ?_ GE720.out | refine below_set ?_ GE721.out) | exact HB.out)))); have n2_ := Aside0.mk (blk_below (g := gb720) (o := .cells #[.int .i64 a1_0, .int .i64 a1_1, .int .u8 a1_2, .int .i64 a1_3, .int .i64 a1_4] 71 (0, 0)) (by (with_reducible repeat (first | refine blk_drewN ?_ _ | refine blk_drew ?_ | refine blk_alloc ?_ _)); exact BK720.out) hb); have n3_ := Aside0.mk (blk_below (g := gb721) (o := .cells #[.int .i64 a2_0, .int .i64 a2_1, .int .u8 a2_2, .int .i64 a2_3, .int .i64 a2_4] 71 (0, 0)) (by (with_reducible repeat (first | refine blk_drewN ?_ _ | refine blk_drew ?_ | refine blk_alloc ?_ _)); exact BK721.out) hb); have n4_ := Aside0.mk (below_step (by repeat (first | (with_reducible first | exact HB.out | apply below_alloc | apply pw_below_drewN | apply below_drew1 | refine below_set ?_ GE720.out | refine below_set ?_ GE721.out) | exact HB.out)) hb); clear HO727; clear BK720; clear BK721; clear HB; have HO727 := n0_; have HO731 := n1_; have BK720 := n2_; have BK721 := n3_; have HB := n4_; clear n0_ n1_ n2_ n3_ n4_; (try clear hb); (try clear hb2); (try clear hk); (try clear hi); (try clear ho0); have hcz27_0 : w26.cell? ⟨gb720, 0, none⟩ = some (.int .i64 a1_0) := (blk_cell BK720.out 0).trans rfl; have hcz27_1 : w26.cell? ⟨gb720, 1, none⟩ = some (.int .i64 a1_1) := (blk_cell BK720.out 1).trans rfl; have hcz27_2 : w26.cell? ⟨gb720, 2, none⟩ = some (.int .u8 a1_2) := (blk_cell BK720.out 2).trans rfl; have hcz27_3 : w26.cell? ⟨gb720, 3, none⟩ = some (.int .i64 a1_3) := (blk_cell BK720.out 3).trans rfl; have hcz27_4 : w26.cell? ⟨gb720, 4, none⟩ = some (.int .i64 a1_4) := (blk_cell BK720.out 4).trans rfl; have hfz27_0 := blk_frozen BK720.out 0; have hfz27_1 := blk_frozen BK720.out 1; have hfz27_2 := blk_frozen BK720.out 2; have hfz27_3 := blk_frozen BK720.out 3; have hfz27_4 := blk_frozen BK720.out 4) | (go_at_call 55; (with_reducible refine (rela_Field.calls kj5 a1_2 t733 t734 _ A20.out).mono ?_); rintro e w' ⟨rfl, ⟨nd, rfl⟩⟩; (try first | exact ⟨rfl, _, World.drewN_drewN _ _ _⟩ | exact ⟨rfl, _, Eq.trans (World.drewN_drewN _ _ _) (congrArg (World.drewN _) (Nat.add_assoc _ _ _))⟩))); go_upto_region 8 with (first | (go_at_call 56; (with_reducible refine (rela_Write.calls kj5 a1_0 a1_1 a1_2 a1_3 a1_4 t725 t728 _ A18.out).mono ?_); rintro e w24 ⟨v726, rfl, ho0, hb⟩; have n0_ := Aside0.mk (Kd.R_lower ho0 (below_size (by repeat (first | (with_reducible first | exact HB.out | apply below_alloc | apply pw_below_drewN | apply below_drew1 | refine below_set ?_ GE720.out | refine below_set ?_ GE721.out) | exact HB.out)))); have n1_ := Aside0.mk (blk_below (g := gb720) (o := .cells #[.int .i64 a1_0, .int .i64 a1_1, .int .u8 a1_2, .int .i64 a1_3, .int .i64 a1_4] 71 (0, 0)) (by (with_reducible repeat (first | refine blk_drewN ?_ _ | refine blk_drew ?_ | refine blk_alloc ?_ _)); exact BK720.out) hb); have n2_ := Aside0.mk (blk_below (g := gb721) (o := .cells #[.int .i64 a2_0, .int .i64 a2_1, .int .u8 a2_2, .int .i64 a2_3, .int .i64 a2_4] 71 (0, 0)) (by (with_reducible repeat (first | refine blk_drewN ?_ _ | refine blk_drew ?_ | refine blk_alloc ?_ _)); exact BK721.out) hb); have n3_ := Aside0.mk (below_step (by repeat (first | (with_reducible first | exact HB.out | apply below_alloc | apply pw_below_drewN | apply below_drew1 | refine below_set ?_ GE720.out | refine below_set ?_ GE721.out) | exact HB.out)) hb); clear BK720; clear BK721; clear HB; have HO727 := n0_; have BK720 := n1_; have BK721 := n2_; have HB := n3_; clear n0_ n1_ n2_ n3_; (try clear hb); (try clear hb2); (try clear hk); (try clear hi); (try clear ho0); have hcz25_0 : w24.cell? ⟨gb721, 0, none⟩ = some (.int .i64 a2_0) := (blk_cell BK721.out 0).trans rfl; have hcz25_1 : w24.cell? ⟨gb721, 1, none⟩ = some (.int .i64 a2_1) := (blk_cell BK721.out 1).trans rfl; have hcz25_2 : w24.cell? ⟨gb721, 2, none⟩ = some (.int .u8 a2_2) := (blk_cell BK721.out 2).trans rfl; have hcz25_3 : w24.cell? ⟨gb721, 3, none⟩ = some (.int .i64 a2_3) := (blk_cell BK721.out 3).trans rfl; have hcz25_4 : w24.cell? ⟨gb721, 4, none⟩ = some (.int .i64 a2_4) := (blk_cell BK721.out 4).trans rfl; have hfz25_0 := blk_frozen BK721.out 0; have hfz25_1 := blk_frozen BK721.out 1; have hfz25_2 := blk_frozen BK721.out 2; have hfz25_3 := blk_frozen BK721.out 3; have hfz25_4 := blk_frozen BK721.out 4) | (go_at_call 56; (with_reducible refine (rela_Write.calls kj5 a2_0 a2_1 a2_2 a2_3 a2_4 t729 t732 _ A19.out).mono ?_); rintro e w26 ⟨v730, rfl, ho0, hb⟩; have n0_ := Aside0.mk (Kd.R_elder' (by (with_reducible repeat (first | apply Kd.R_alloc | apply Kd.R_drewN | apply Kd.R_drew)); exact HO727.out) (Kd.R_base ho0) hb); have n1_ := Aside0.mk (Kd.R_lower (Kd.R_new' ho0 (Kd.R_lt (by (with_reducible repeat (first | apply Kd.R_alloc | apply Kd.R_drewN | apply Kd.R_drew)); exact HO727.out))) (below_size (by repeat (first | (with_reducible first | exact HB.out | apply below_alloc | apply pw_below_drewN | apply below_drew1 | refine below_set ?_ GE720.out | refine below_set ?_ GE721.out) | exact HB.out)))); have n2_ := Aside0.mk (blk_below (g := gb720) (o := .cells #[.int .i64 a1_0, .int .i64 a1_1, .int .u8 a1_2, .int .i64 a1_3, .int .i64 a1_4] 71 (0, 0)) (by (with_reducible repeat (first | refine blk_drewN ?_ _ | refine blk_drew ?_ | refine blk_alloc ?_ _)); exact BK720.out) hb); have n3_ := Aside0.mk (blk_below (g := gb721) (o := .cells #[.int .i64 a2_0, .int .i64 a2_1, .int .u8 a2_2, .int .i64 a2_3, .int .i64 a2_4] 71 (0, 0)) (by (with_reducible repeat (first | refine blk_drewN ?_ _ | refine blk_drew ?_ | refine blk_alloc ?_ _)); exact BK721.out) hb); have n4_ := Aside0.mk (below_step (by repeat (first | (with_reducible first | exact HB.out | apply below_alloc | apply pw_below_drewN | apply below_drew1 | refine below_set ?_ GE720.out | refine below_set ?_ GE721.out) | exact HB.out)) hb); clear HO727; clear BK720; clear BK721; clear HB; have HO727 := n0_; have HO731 := n1_; have BK720 := n2_; have BK721 := n3_; have HB := n4_; clear n0_ n1_ n2_ n3_ n4_; (try clear hb); (try clear hb2); (try clear hk); (try clear hi); (try clear ho0); have hcz27_0 : w26.cell? ⟨gb720, 0, none⟩ = some (.int .i64 a1_0) := (blk_cell BK720.out 0).trans rfl; have hcz27_1 : w26.cell? ⟨gb720, 1, none⟩ = some (.int .i64 a1_1) := (blk_cell BK720.out 1).trans rfl; have hcz27_2 : w26.cell? ⟨gb720, 2, none⟩ = some (.int .u8 a1_2) := (blk_cell BK720.out 2).trans rfl; have hcz27_3 : w26.cell? ⟨gb720, 3, none⟩ = some (.int .i64 a1_3) := (blk_cell BK720.out 3).trans rfl; have hcz27_4 : w26.cell? ⟨gb720, 4, none⟩ = some (.int .i64 a1_4) := (blk_cell BK720.out 4).trans rfl; have hfz27_0 := blk_frozen BK720.out 0; have hfz27_1 := blk_frozen BK720.out 1; have hfz27_2 := blk_frozen BK720.out 2; have hfz27_3 := blk_frozen BK720.out 3; have hfz27_4 := blk_frozen BK720.out 4) | (go_at_call 55; (with_reducible refine (rela_Field.calls kj5 a1_2 t733 t734 _ A20.out).mono ?_); rintro e w' ⟨rfl, ⟨nd, rfl⟩⟩; (try first | exact ⟨rfl, _, World.drewN_drewN _ _ _⟩ | exact ⟨rfl, _, Eq.trans (World.drewN_drewN _ _ _) (congrArg (World.drewN _) (Nat.add_assoc _ _ _))⟩))))
    (try simp only [Act.put, List.setIfInBounds_toArray, List.set_cons_zero, List.set_cons_succ])
    go_cut [16] (fun v16 wc => ∃ (kq : Nat) (x16_20 : Bool), v16 = .bool x16_20 ∧ Aside0 (quoinlaw11_RelaFields.j1 kq t722 t725 t728 t729 t732 x16_20 a1_0 a1_1 a1_2 a1_3 a1_4 a2_0 a2_1 a2_2 a2_3 a2_4 = some r) ∧ Aside0 (kq ≤ kj5) ∧ Aside0 (Kd.R (Kd.int .u8) 5 wc w.heap.size (fun k_ => some k_ ≠ (v730 : Value).ownBlock) v726 t725) ∧ Aside0 (Kd.R (Kd.int .u8) 5 wc w.heap.size (fun k_ => some k_ ≠ (v726 : Value).ownBlock) v730 t729) ∧ Aside0 (wc.heap[gb720]? = some (.cells #[.int .i64 a1_0, .int .i64 a1_1, .int .u8 a1_2, .int .i64 a1_3, .int .i64 a1_4] 71 (0, 0))) ∧ Aside0 (wc.heap[gb721]? = some (.cells #[.int .i64 a2_0, .int .i64 a2_1, .int .u8 a2_2, .int .i64 a2_3, .int .i64 a2_4] 71 (0, 0))) ∧ Aside0 (Below w.heap.size w wc))
    case first =>
     have H := HC21.out
     clear HC21
     by_cases c28 : t734 = 0
     ·
      rw [if_pos c28] at H
      have c28b0 : (t734 == 0) = true := beq_iff_eq.mpr c28
      have c28b1 : (t734 != 0) = false := bne_eq_false_iff_eq.mpr c28
      clear c28
      (first | rw [c28b0] | (simp only [i64_w, i32_w]; rw [c28b0]) | skip)
      by_cases c29 : a1_1 ≥ 0
      ·
       rw [if_pos c29] at H
       have c29b0 : decide (0 ≤ a1_1) = true := decide_eq_true c29
       clear c29
       by_cases c30 : a1_1 ≤ 4096
       ·
        rw [if_pos c30] at H
        have c30b0 : decide (a1_1 ≤ 4096) = true := decide_eq_true c30
        clear c30
        by_cases c31 : a1_3 ≥ (-1)
        ·
         rw [if_pos c31] at H
         have c31b0 : decide ((-1) ≤ a1_3) = true := decide_eq_true c31
         clear c31
         by_cases c32 : a1_3 ≤ 63
         ·
          rw [if_pos c32] at H
          have c32b0 : decide (a1_3 ≤ 63) = true := decide_eq_true c32
          clear c32
          by_cases c33 : a1_4 ≥ (-2147483648)
          ·
           rw [if_pos c33] at H
           have c33b0 : decide ((-2147483648) ≤ a1_4) = true := decide_eq_true c33
           clear c33
           have H' := Aside0.mk H
           clear H
           have hnb34 := NB720_721.out
           have hnc34 := NB721_720.out
           have hcz35_0 : w26.cell? ⟨gb720, 0, none⟩ = some (.int .i64 a1_0) := (blk_cell BK720.out 0).trans rfl
           have hcz35_1 : w26.cell? ⟨gb720, 1, none⟩ = some (.int .i64 a1_1) := (blk_cell BK720.out 1).trans rfl
           have hcz35_2 : w26.cell? ⟨gb720, 2, none⟩ = some (.int .u8 a1_2) := (blk_cell BK720.out 2).trans rfl
           have hcz35_3 : w26.cell? ⟨gb720, 3, none⟩ = some (.int .i64 a1_3) := (blk_cell BK720.out 3).trans rfl
           have hcz35_4 : w26.cell? ⟨gb720, 4, none⟩ = some (.int .i64 a1_4) := (blk_cell BK720.out 4).trans rfl
           have hfz35_0 := blk_frozen BK720.out 0
           have hfz35_1 := blk_frozen BK720.out 1
           have hfz35_2 := blk_frozen BK720.out 2
           have hfz35_3 := blk_frozen BK720.out 3
           have hfz35_4 := blk_frozen BK720.out 4
           go_wp2
           repeat (go_quiet (fail); try go_wp2)
           go_meet
           case rel => exact ⟨_, (decide (a1_4 < 4294967296)), (by first | rfl | (simp; done) | (simp [*]; done)), H', ⟨by have := HJ5.out; first | omega | exact Nat.le_refl _⟩, ⟨by (with_reducible repeat (first | apply Kd.R_alloc | apply Kd.R_drewN | apply Kd.R_drew)); exact Kd.R_mono HO727.out (fun _ hk => hk.2)⟩, ⟨by (with_reducible repeat (first | apply Kd.R_alloc | apply Kd.R_drewN | apply Kd.R_drew)); exact Kd.R_mono HO731.out (fun _ hk => hk.2)⟩, ⟨by (with_reducible repeat (first | refine blk_drewN ?_ _ | refine blk_drew ?_ | refine blk_alloc ?_ _)); exact BK720.out⟩, ⟨by (with_reducible repeat (first | refine blk_drewN ?_ _ | refine blk_drew ?_ | refine blk_alloc ?_ _)); exact BK721.out⟩, ⟨by repeat (first | (with_reducible first | exact HB.out | apply below_alloc | apply pw_below_drewN | apply below_drew1 | refine below_set ?_ GE720.out | refine below_set ?_ GE721.out) | exact HB.out)⟩⟩
          ·
           rw [if_neg c33] at H
           have c33b0 : decide ((-2147483648) ≤ a1_4) = false := decide_eq_false c33
           clear c33
           have H' := Aside0.mk H
           clear H
           have hnb36 := NB720_721.out
           have hnc36 := NB721_720.out
           have hcz37_0 : w26.cell? ⟨gb720, 0, none⟩ = some (.int .i64 a1_0) := (blk_cell BK720.out 0).trans rfl
           have hcz37_1 : w26.cell? ⟨gb720, 1, none⟩ = some (.int .i64 a1_1) := (blk_cell BK720.out 1).trans rfl
           have hcz37_2 : w26.cell? ⟨gb720, 2, none⟩ = some (.int .u8 a1_2) := (blk_cell BK720.out 2).trans rfl
           have hcz37_3 : w26.cell? ⟨gb720, 3, none⟩ = some (.int .i64 a1_3) := (blk_cell BK720.out 3).trans rfl
           have hcz37_4 : w26.cell? ⟨gb720, 4, none⟩ = some (.int .i64 a1_4) := (blk_cell BK720.out 4).trans rfl
           have hfz37_0 := blk_frozen BK720.out 0
           have hfz37_1 := blk_frozen BK720.out 1
           have hfz37_2 := blk_frozen BK720.out 2
           have hfz37_3 := blk_frozen BK720.out 3
           have hfz37_4 := blk_frozen BK720.out 4
           go_wp2
           repeat (go_quiet (fail); try go_wp2)
           go_meet
           case rel => exact ⟨_, (false), (by first | rfl | (simp; done) | (simp [*]; done)), H', ⟨by have := HJ5.out; first | omega | exact Nat.le_refl _⟩, ⟨by (with_reducible repeat (first | apply Kd.R_alloc | apply Kd.R_drewN | apply Kd.R_drew)); exact Kd.R_mono HO727.out (fun _ hk => hk.2)⟩, ⟨by (with_reducible repeat (first | apply Kd.R_alloc | apply Kd.R_drewN | apply Kd.R_drew)); exact Kd.R_mono HO731.out (fun _ hk => hk.2)⟩, ⟨by (with_reducible repeat (first | refine blk_drewN ?_ _ | refine blk_drew ?_ | refine blk_alloc ?_ _)); exact BK720.out⟩, ⟨by (with_reducible repeat (first | refine blk_drewN ?_ _ | refine blk_drew ?_ | refine blk_alloc ?_ _)); exact BK721.out⟩, ⟨by repeat (first | (with_reducible first | exact HB.out | apply below_alloc | apply pw_below_drewN | apply below_drew1 | refine below_set ?_ GE720.out | refine below_set ?_ GE721.out) | exact HB.out)⟩⟩
         ·
          rw [if_neg c32] at H
          have c32b0 : decide (a1_3 ≤ 63) = false := decide_eq_false c32
          clear c32
          have H' := Aside0.mk H
          clear H
          have hnb38 := NB720_721.out
          have hnc38 := NB721_720.out
          have hcz39_0 : w26.cell? ⟨gb720, 0, none⟩ = some (.int .i64 a1_0) := (blk_cell BK720.out 0).trans rfl
          have hcz39_1 : w26.cell? ⟨gb720, 1, none⟩ = some (.int .i64 a1_1) := (blk_cell BK720.out 1).trans rfl
          have hcz39_2 : w26.cell? ⟨gb720, 2, none⟩ = some (.int .u8 a1_2) := (blk_cell BK720.out 2).trans rfl
          have hcz39_3 : w26.cell? ⟨gb720, 3, none⟩ = some (.int .i64 a1_3) := (blk_cell BK720.out 3).trans rfl
          have hcz39_4 : w26.cell? ⟨gb720, 4, none⟩ = some (.int .i64 a1_4) := (blk_cell BK720.out 4).trans rfl
          have hfz39_0 := blk_frozen BK720.out 0
          have hfz39_1 := blk_frozen BK720.out 1
          have hfz39_2 := blk_frozen BK720.out 2
          have hfz39_3 := blk_frozen BK720.out 3
          have hfz39_4 := blk_frozen BK720.out 4
          go_wp2
          repeat (go_quiet (fail); try go_wp2)
          go_meet
          case rel => exact ⟨_, (false), (by first | rfl | (simp; done) | (simp [*]; done)), H', ⟨by have := HJ5.out; first | omega | exact Nat.le_refl _⟩, ⟨by (with_reducible repeat (first | apply Kd.R_alloc | apply Kd.R_drewN | apply Kd.R_drew)); exact Kd.R_mono HO727.out (fun _ hk => hk.2)⟩, ⟨by (with_reducible repeat (first | apply Kd.R_alloc | apply Kd.R_drewN | apply Kd.R_drew)); exact Kd.R_mono HO731.out (fun _ hk => hk.2)⟩, ⟨by (with_reducible repeat (first | refine blk_drewN ?_ _ | refine blk_drew ?_ | refine blk_alloc ?_ _)); exact BK720.out⟩, ⟨by (with_reducible repeat (first | refine blk_drewN ?_ _ | refine blk_drew ?_ | refine blk_alloc ?_ _)); exact BK721.out⟩, ⟨by repeat (first | (with_reducible first | exact HB.out | apply below_alloc | apply pw_below_drewN | apply below_drew1 | refine below_set ?_ GE720.out | refine below_set ?_ GE721.out) | exact HB.out)⟩⟩
        ·
         rw [if_neg c31] at H
         have c31b0 : decide ((-1) ≤ a1_3) = false := decide_eq_false c31
         clear c31
         have H' := Aside0.mk H
         clear H
         have hnb40 := NB720_721.out
         have hnc40 := NB721_720.out
         have hcz41_0 : w26.cell? ⟨gb720, 0, none⟩ = some (.int .i64 a1_0) := (blk_cell BK720.out 0).trans rfl
         have hcz41_1 : w26.cell? ⟨gb720, 1, none⟩ = some (.int .i64 a1_1) := (blk_cell BK720.out 1).trans rfl
         have hcz41_2 : w26.cell? ⟨gb720, 2, none⟩ = some (.int .u8 a1_2) := (blk_cell BK720.out 2).trans rfl
         have hcz41_3 : w26.cell? ⟨gb720, 3, none⟩ = some (.int .i64 a1_3) := (blk_cell BK720.out 3).trans rfl
         have hcz41_4 : w26.cell? ⟨gb720, 4, none⟩ = some (.int .i64 a1_4) := (blk_cell BK720.out 4).trans rfl
         have hfz41_0 := blk_frozen BK720.out 0
         have hfz41_1 := blk_frozen BK720.out 1
         have hfz41_2 := blk_frozen BK720.out 2
         have hfz41_3 := blk_frozen BK720.out 3
         have hfz41_4 := blk_frozen BK720.out 4
         go_wp2
         repeat (go_quiet (fail); try go_wp2)
         go_meet
         case rel => exact ⟨_, (false), (by first | rfl | (simp; done) | (simp [*]; done)), H', ⟨by have := HJ5.out; first | omega | exact Nat.le_refl _⟩, ⟨by (with_reducible repeat (first | apply Kd.R_alloc | apply Kd.R_drewN | apply Kd.R_drew)); exact Kd.R_mono HO727.out (fun _ hk => hk.2)⟩, ⟨by (with_reducible repeat (first | apply Kd.R_alloc | apply Kd.R_drewN | apply Kd.R_drew)); exact Kd.R_mono HO731.out (fun _ hk => hk.2)⟩, ⟨by (with_reducible repeat (first | refine blk_drewN ?_ _ | refine blk_drew ?_ | refine blk_alloc ?_ _)); exact BK720.out⟩, ⟨by (with_reducible repeat (first | refine blk_drewN ?_ _ | refine blk_drew ?_ | refine blk_alloc ?_ _)); exact BK721.out⟩, ⟨by repeat (first | (with_reducible first | exact HB.out | apply below_alloc | apply pw_below_drewN | apply below_drew1 | refine below_set ?_ GE720.out | refine below_set ?_ GE721.out) | exact HB.out)⟩⟩
       ·
        rw [if_neg c30] at H
        have c30b0 : decide (a1_1 ≤ 4096) = false := decide_eq_false c30
        clear c30
        have H' := Aside0.mk H
        clear H
        have hnb42 := NB720_721.out
        have hnc42 := NB721_720.out
        have hcz43_0 : w26.cell? ⟨gb720, 0, none⟩ = some (.int .i64 a1_0) := (blk_cell BK720.out 0).trans rfl
        have hcz43_1 : w26.cell? ⟨gb720, 1, none⟩ = some (.int .i64 a1_1) := (blk_cell BK720.out 1).trans rfl
        have hcz43_2 : w26.cell? ⟨gb720, 2, none⟩ = some (.int .u8 a1_2) := (blk_cell BK720.out 2).trans rfl
        have hcz43_3 : w26.cell? ⟨gb720, 3, none⟩ = some (.int .i64 a1_3) := (blk_cell BK720.out 3).trans rfl
        have hcz43_4 : w26.cell? ⟨gb720, 4, none⟩ = some (.int .i64 a1_4) := (blk_cell BK720.out 4).trans rfl
        have hfz43_0 := blk_frozen BK720.out 0
        have hfz43_1 := blk_frozen BK720.out 1
        have hfz43_2 := blk_frozen BK720.out 2
        have hfz43_3 := blk_frozen BK720.out 3
        have hfz43_4 := blk_frozen BK720.out 4
        go_wp2
        repeat (go_quiet (fail); try go_wp2)
        go_meet
        case rel => exact ⟨_, (false), (by first | rfl | (simp; done) | (simp [*]; done)), H', ⟨by have := HJ5.out; first | omega | exact Nat.le_refl _⟩, ⟨by (with_reducible repeat (first | apply Kd.R_alloc | apply Kd.R_drewN | apply Kd.R_drew)); exact Kd.R_mono HO727.out (fun _ hk => hk.2)⟩, ⟨by (with_reducible repeat (first | apply Kd.R_alloc | apply Kd.R_drewN | apply Kd.R_drew)); exact Kd.R_mono HO731.out (fun _ hk => hk.2)⟩, ⟨by (with_reducible repeat (first | refine blk_drewN ?_ _ | refine blk_drew ?_ | refine blk_alloc ?_ _)); exact BK720.out⟩, ⟨by (with_reducible repeat (first | refine blk_drewN ?_ _ | refine blk_drew ?_ | refine blk_alloc ?_ _)); exact BK721.out⟩, ⟨by repeat (first | (with_reducible first | exact HB.out | apply below_alloc | apply pw_below_drewN | apply below_drew1 | refine below_set ?_ GE720.out | refine below_set ?_ GE721.out) | exact HB.out)⟩⟩
      ·
       rw [if_neg c29] at H
       have c29b0 : decide (0 ≤ a1_1) = false := decide_eq_false c29
       clear c29
       have H' := Aside0.mk H
       clear H
       have hnb44 := NB720_721.out
       have hnc44 := NB721_720.out
       have hcz45_0 : w26.cell? ⟨gb720, 0, none⟩ = some (.int .i64 a1_0) := (blk_cell BK720.out 0).trans rfl
       have hcz45_1 : w26.cell? ⟨gb720, 1, none⟩ = some (.int .i64 a1_1) := (blk_cell BK720.out 1).trans rfl
       have hcz45_2 : w26.cell? ⟨gb720, 2, none⟩ = some (.int .u8 a1_2) := (blk_cell BK720.out 2).trans rfl
       have hcz45_3 : w26.cell? ⟨gb720, 3, none⟩ = some (.int .i64 a1_3) := (blk_cell BK720.out 3).trans rfl
       have hcz45_4 : w26.cell? ⟨gb720, 4, none⟩ = some (.int .i64 a1_4) := (blk_cell BK720.out 4).trans rfl
       have hfz45_0 := blk_frozen BK720.out 0
       have hfz45_1 := blk_frozen BK720.out 1
       have hfz45_2 := blk_frozen BK720.out 2
       have hfz45_3 := blk_frozen BK720.out 3
       have hfz45_4 := blk_frozen BK720.out 4
       go_wp2
       repeat (go_quiet (fail); try go_wp2)
       go_meet
       case rel => exact ⟨_, (false), (by first | rfl | (simp; done) | (simp [*]; done)), H', ⟨by have := HJ5.out; first | omega | exact Nat.le_refl _⟩, ⟨by (with_reducible repeat (first | apply Kd.R_alloc | apply Kd.R_drewN | apply Kd.R_drew)); exact Kd.R_mono HO727.out (fun _ hk => hk.2)⟩, ⟨by (with_reducible repeat (first | apply Kd.R_alloc | apply Kd.R_drewN | apply Kd.R_drew)); exact Kd.R_mono HO731.out (fun _ hk => hk.2)⟩, ⟨by (with_reducible repeat (first | refine blk_drewN ?_ _ | refine blk_drew ?_ | refine blk_alloc ?_ _)); exact BK720.out⟩, ⟨by (with_reducible repeat (first | refine blk_drewN ?_ _ | refine blk_drew ?_ | refine blk_alloc ?_ _)); exact BK721.out⟩, ⟨by repeat (first | (with_reducible first | exact HB.out | apply below_alloc | apply pw_below_drewN | apply below_drew1 | refine below_set ?_ GE720.out | refine below_set ?_ GE721.out) | exact HB.out)⟩⟩
     ·
      rw [if_neg c28] at H
      have c28b0 : (t734 == 0) = false := beq_eq_false_iff_ne.mpr c28
      have c28b1 : (t734 != 0) = true := bne_iff_ne.mpr c28
      (first | rw [c28b0] | (simp only [i64_w, i32_w]; rw [c28b0]) | skip)
      have H' := Aside0.mk H
      clear H
      go_wp2
      repeat (go_quiet (fail); try go_wp2)
      go_meet
      case rel => exact ⟨_, (false), (by first | rfl | (simp; done) | (simp [*]; done)), H', ⟨by have := HJ5.out; first | omega | exact Nat.le_refl _⟩, ⟨by (with_reducible repeat (first | apply Kd.R_alloc | apply Kd.R_drewN | apply Kd.R_drew)); exact Kd.R_mono HO727.out (fun _ hk => hk.2)⟩, ⟨by (with_reducible repeat (first | apply Kd.R_alloc | apply Kd.R_drewN | apply Kd.R_drew)); exact Kd.R_mono HO731.out (fun _ hk => hk.2)⟩, ⟨by (with_reducible repeat (first | refine blk_drewN ?_ _ | refine blk_drew ?_ | refine blk_alloc ?_ _)); exact BK720.out⟩, ⟨by (with_reducible repeat (first | refine blk_drewN ?_ _ | refine blk_drew ?_ | refine blk_alloc ?_ _)); exact BK721.out⟩, ⟨by repeat (first | (with_reducible first | exact HB.out | apply below_alloc | apply pw_below_drewN | apply below_drew1 | refine below_set ?_ GE720.out | refine below_set ?_ GE721.out) | exact HB.out)⟩⟩
    case rest =>
     clear HC21
     try clear c1
     try clear c2
     try clear p2
     try clear c3
     try clear c4
     try clear c10
     try clear c10b0
     try clear c10b1
     try clear c11
     try clear c11b0
     try clear c11b1
     try clear c12
     try clear c12b0
     try clear c12b1
     try clear c13
     try clear c13b0
     try clear c13b1
     try clear c14
     try clear c14b0
     try clear c14b1
     try clear c15
     try clear c15b0
     try clear c15b1
     try clear c16
     try clear c16b0
     try clear c16b1
     try clear c17
     try clear c20
     try clear c22
     try clear c28
     try clear c28b0
     try clear c28b1
     try clear c29
     try clear c29b0
     try clear c30
     try clear c30b0
     try clear c31
     try clear c31b0
     try clear c32
     try clear c32b0
     try clear c33
     try clear c33b0
     try clear c34
     try clear c36
     try clear c38
     try clear c40
     try clear c42
     try clear c44
     try clear hcz23_0
     try clear hcz23_1
     try clear hcz23_2
     try clear hcz23_3
     try clear hcz23_4
     try clear hcz25_0
     try clear hcz25_1
     try clear hcz25_2
     try clear hcz25_3
     try clear hcz25_4
     try clear hcz27_0
     try clear hcz27_1
     try clear hcz27_2
     try clear hcz27_3
     try clear hcz27_4
     try clear hcz35_0
     try clear hcz35_1
     try clear hcz35_2
     try clear hcz35_3
     try clear hcz35_4
     try clear hcz37_0
     try clear hcz37_1
     try clear hcz37_2
     try clear hcz37_3
     try clear hcz37_4
     try clear hcz39_0
     try clear hcz39_1
     try clear hcz39_2
     try clear hcz39_3
     try clear hcz39_4
     try clear hcz41_0
     try clear hcz41_1
     try clear hcz41_2
     try clear hcz41_3
     try clear hcz41_4
     try clear hcz43_0
     try clear hcz43_1
     try clear hcz43_2
     try clear hcz43_3
     try clear hcz43_4
     try clear hcz45_0
     try clear hcz45_1
     try clear hcz45_2
     try clear hcz45_3
     try clear hcz45_4
     try clear hfz23_0
     try clear hfz23_1
     try clear hfz23_2
     try clear hfz23_3
     try clear hfz23_4
     try clear hfz25_0
     try clear hfz25_1
     try clear hfz25_2
     try clear hfz25_3
     try clear hfz25_4
     try clear hfz27_0
     try clear hfz27_1
     try clear hfz27_2
     try clear hfz27_3
     try clear hfz27_4
     try clear hfz35_0
     try clear hfz35_1
     try clear hfz35_2
     try clear hfz35_3
     try clear hfz35_4
     try clear hfz37_0
     try clear hfz37_1
     try clear hfz37_2
     try clear hfz37_3
     try clear hfz37_4
     try clear hfz39_0
     try clear hfz39_1
     try clear hfz39_2
     try clear hfz39_3
     try clear hfz39_4
     try clear hfz41_0
     try clear hfz41_1
     try clear hfz41_2
     try clear hfz41_3
     try clear hfz41_4
     try clear hfz43_0
     try clear hfz43_1
     try clear hfz43_2
     try clear hfz43_3
     try clear hfz43_4
     try clear hfz45_0
     try clear hfz45_1
     try clear hfz45_2
     try clear hfz45_3
     try clear hfz45_4
     try clear p2
     obtain ⟨kq, x16_20, rfl, HA, HJ20, HO_10, HO_12, BK720, BK721, HB⟩ := hcut
     cases kq with
     | zero => exact absurd HA.out (by simp [quoinlaw11_RelaFields.j1])
     | succ kj20 =>
      have H := HA.out
      clear HA
      simp only [quoinlaw11_RelaFields.j1] at H
      have HC46 := Aside0.mk H
      clear H
      go_upto_region 9 with (fail)
      repeat (go_quiet (fail); go_upto_region 9 with (fail))
      go_cut [117] (fun v117 wc => ∃ (kq : Nat) (x117_45 : Bool), v117 = .bool x117_45 ∧ Aside0 (quoinlaw11_RelaFields.j2 kq t722 t725 t728 t729 t732 x117_45 a1_0 a1_1 a1_2 a1_3 a1_4 a2_0 a2_1 a2_2 a2_3 a2_4 = some r) ∧ Aside0 (kq ≤ kj20) ∧ Aside0 (Kd.R (Kd.int .u8) 5 wc w.heap.size (fun k_ => some k_ ≠ (v730 : Value).ownBlock) v726 t725) ∧ Aside0 (Kd.R (Kd.int .u8) 5 wc w.heap.size (fun k_ => some k_ ≠ (v726 : Value).ownBlock) v730 t729) ∧ Aside0 (wc.heap[gb720]? = some (.cells #[.int .i64 a1_0, .int .i64 a1_1, .int .u8 a1_2, .int .i64 a1_3, .int .i64 a1_4] 71 (0, 0))) ∧ Aside0 (wc.heap[gb721]? = some (.cells #[.int .i64 a2_0, .int .i64 a2_1, .int .u8 a2_2, .int .i64 a2_3, .int .i64 a2_4] 71 (0, 0))) ∧ Aside0 (Below w.heap.size w wc))
      case first =>
       have H := HC46.out
       clear HC46
       by_cases c47 : t728 = 0
       ·
        rw [if_pos c47] at H
        have c47b0 : (t728 == 0) = true := beq_iff_eq.mpr c47
        have c47b1 : (t728 != 0) = false := bne_eq_false_iff_eq.mpr c47
        clear c47
        (first | rw [c47b0] | (simp only [i64_w, i32_w]; rw [c47b0]) | skip)
        by_cases c48 : x16_20 = true
        ·
         subst c48
         have H1 : (quoinlaw11_RelaFields.j2 kj20 t722 t725 t728 t729 t732 false a1_0 a1_1 a1_2 a1_3 a1_4 a2_0 a2_1 a2_2 a2_3 a2_4) = some r := by rw [if_pos rfl] at H; exact H
         clear H
         have H := H1
         clear H1
         have H' := Aside0.mk H
         clear H
         go_wp2
         repeat (go_quiet (fail); try go_wp2)
         go_meet
         case rel => exact ⟨_, (false), (by first | rfl | (simp; done) | (simp [*]; done)), H', ⟨by have := HJ5.out; have := HJ20.out; first | omega | exact Nat.le_refl _⟩, ⟨by (with_reducible repeat (first | apply Kd.R_alloc | apply Kd.R_drewN | apply Kd.R_drew)); exact HO_10.out⟩, ⟨by (with_reducible repeat (first | apply Kd.R_alloc | apply Kd.R_drewN | apply Kd.R_drew)); exact HO_12.out⟩, ⟨by (with_reducible repeat (first | refine blk_drewN ?_ _ | refine blk_drew ?_ | refine blk_alloc ?_ _)); exact BK720.out⟩, ⟨by (with_reducible repeat (first | refine blk_drewN ?_ _ | refine blk_drew ?_ | refine blk_alloc ?_ _)); exact BK721.out⟩, ⟨by repeat (first | (with_reducible first | exact HB.out | apply below_alloc | apply pw_below_drewN | apply below_drew1 | refine below_set ?_ GE720.out | refine below_set ?_ GE721.out) | exact HB.out)⟩⟩
        ·
         replace c48 := Bool.eq_false_iff.mpr c48
         subst c48
         have H1 : (none) = some r := by rw [if_neg (show ¬ (false = true) by decide)] at H; exact H
         clear H
         have H := H1
         clear H1
         exact absurd H (by simp)
       ·
        rw [if_neg c47] at H
        have c47b0 : (t728 == 0) = false := beq_eq_false_iff_ne.mpr c47
        have c47b1 : (t728 != 0) = true := bne_iff_ne.mpr c47
        (first | rw [c47b0] | (simp only [i64_w, i32_w]; rw [c47b0]) | skip)
        by_cases c49 : x16_20 = true
        ·
         subst c49
         have H1 : (none) = some r := by rw [if_pos rfl] at H; exact H
         clear H
         have H := H1
         clear H1
         exact absurd H (by simp)
        ·
         replace c49 := Bool.eq_false_iff.mpr c49
         subst c49
         have H1 : (quoinlaw11_RelaFields.j2 kj20 t722 t725 t728 t729 t732 ((t725.length : Int) != 0) a1_0 a1_1 a1_2 a1_3 a1_4 a2_0 a2_1 a2_2 a2_3 a2_4) = some r := by rw [if_neg (show ¬ (false = true) by decide)] at H; exact H
         clear H
         have H := H1
         clear H1
         have H' := Aside0.mk H
         clear H
         obtain ⟨Ao50, co50, eo50⟩ := Kd.R_slice HO_10.out
         subst eo50
         go_wp2
         repeat (go_quiet (fail); try go_wp2)
         go_meet
         case rel => exact ⟨_, (((t725.length : Int) != 0)), (by first | rfl | (simp; done) | (simp [*]; done)), H', ⟨by have := HJ5.out; have := HJ20.out; first | omega | exact Nat.le_refl _⟩, ⟨by (with_reducible repeat (first | apply Kd.R_alloc | apply Kd.R_drewN | apply Kd.R_drew)); exact HO_10.out⟩, ⟨by (with_reducible repeat (first | apply Kd.R_alloc | apply Kd.R_drewN | apply Kd.R_drew)); exact HO_12.out⟩, ⟨by (with_reducible repeat (first | refine blk_drewN ?_ _ | refine blk_drew ?_ | refine blk_alloc ?_ _)); exact BK720.out⟩, ⟨by (with_reducible repeat (first | refine blk_drewN ?_ _ | refine blk_drew ?_ | refine blk_alloc ?_ _)); exact BK721.out⟩, ⟨by repeat (first | (with_reducible first | exact HB.out | apply below_alloc | apply pw_below_drewN | apply below_drew1 | refine below_set ?_ GE720.out | refine below_set ?_ GE721.out) | exact HB.out)⟩⟩
      case rest =>
       clear HC46
       try clear c1
       try clear c2
       try clear p2
       try clear c3
       try clear c4
       try clear c10
       try clear c10b0
       try clear c10b1
       try clear c11
       try clear c11b0
       try clear c11b1
       try clear c12
       try clear c12b0
       try clear c12b1
       try clear c13
       try clear c13b0
       try clear c13b1
       try clear c14
       try clear c14b0
       try clear c14b1
       try clear c15
       try clear c15b0
       try clear c15b1
       try clear c16
       try clear c16b0
       try clear c16b1
       try clear c17
       try clear c20
       try clear c22
       try clear c28
       try clear c28b0
       try clear c28b1
       try clear c29
       try clear c29b0
       try clear c30
       try clear c30b0
       try clear c31
       try clear c31b0
       try clear c32
       try clear c32b0
       try clear c33
       try clear c33b0
       try clear c34
       try clear c36
       try clear c38
       try clear c40
       try clear c42
       try clear c44
       try clear c47
       try clear c47b0
       try clear c47b1
       try clear c48
       try clear c49
       try clear hcz23_0
       try clear hcz23_1
       try clear hcz23_2
       try clear hcz23_3
       try clear hcz23_4
       try clear hcz25_0
       try clear hcz25_1
       try clear hcz25_2
       try clear hcz25_3
       try clear hcz25_4
       try clear hcz27_0
       try clear hcz27_1
       try clear hcz27_2
       try clear hcz27_3
       try clear hcz27_4
       try clear hcz35_0
       try clear hcz35_1
       try clear hcz35_2
       try clear hcz35_3
       try clear hcz35_4
       try clear hcz37_0
       try clear hcz37_1
       try clear hcz37_2
       try clear hcz37_3
       try clear hcz37_4
       try clear hcz39_0
       try clear hcz39_1
       try clear hcz39_2
       try clear hcz39_3
       try clear hcz39_4
       try clear hcz41_0
       try clear hcz41_1
       try clear hcz41_2
       try clear hcz41_3
       try clear hcz41_4
       try clear hcz43_0
       try clear hcz43_1
       try clear hcz43_2
       try clear hcz43_3
       try clear hcz43_4
       try clear hcz45_0
       try clear hcz45_1
       try clear hcz45_2
       try clear hcz45_3
       try clear hcz45_4
       try clear hfz23_0
       try clear hfz23_1
       try clear hfz23_2
       try clear hfz23_3
       try clear hfz23_4
       try clear hfz25_0
       try clear hfz25_1
       try clear hfz25_2
       try clear hfz25_3
       try clear hfz25_4
       try clear hfz27_0
       try clear hfz27_1
       try clear hfz27_2
       try clear hfz27_3
       try clear hfz27_4
       try clear hfz35_0
       try clear hfz35_1
       try clear hfz35_2
       try clear hfz35_3
       try clear hfz35_4
       try clear hfz37_0
       try clear hfz37_1
       try clear hfz37_2
       try clear hfz37_3
       try clear hfz37_4
       try clear hfz39_0
       try clear hfz39_1
       try clear hfz39_2
       try clear hfz39_3
       try clear hfz39_4
       try clear hfz41_0
       try clear hfz41_1
       try clear hfz41_2
       try clear hfz41_3
       try clear hfz41_4
       try clear hfz43_0
       try clear hfz43_1
       try clear hfz43_2
       try clear hfz43_3
       try clear hfz43_4
       try clear hfz45_0
       try clear hfz45_1
       try clear hfz45_2
       try clear hfz45_3
       try clear hfz45_4
       try clear p2
       obtain ⟨kq, x117_45, rfl, HA, HJ45, HO_10, HO_12, BK720, BK721, HB⟩ := hcut
       cases kq with
       | zero => exact absurd HA.out (by simp [quoinlaw11_RelaFields.j2])
       | succ kj45 =>
        have H := HA.out
        clear HA
        simp only [quoinlaw11_RelaFields.j2] at H
        by_cases c51 : x117_45 = true
        ·
         subst c51
         have H1 : (none) = some r := by rw [if_pos rfl] at H; exact H
         clear H
         have H := H1
         clear H1
         exact absurd H (by simp)
        ·
         replace c51 := Bool.eq_false_iff.mpr c51
         subst c51
         have H1 : (if t728 = 0 then (if t732 = 0 then (if t722 = true then (if (t725.length : Int) = 24 then (if (strOfNums t725).toList = (strOfNums t729).toList then (some (a1_1 == a2_1 && (a1_2 == a2_2 && (a1_3 == a2_3 && (a1_4 == a2_4))))) else (some (!(a1_1 == a2_1 && (a1_2 == a2_2 && (a1_3 == a2_3 && (a1_4 == a2_4))))))) else (none)) else (none)) else (some t722)) else (some t722)) = some r := by rw [if_neg (show ¬ (false = true) by decide)] at H; exact H
         clear H
         have H := H1
         clear H1
         by_cases c52 : t728 = 0
         ·
          rw [if_pos c52] at H
          have c52b0 : (t728 == 0) = true := beq_iff_eq.mpr c52
          have c52b1 : (t728 != 0) = false := bne_eq_false_iff_eq.mpr c52
          clear c52
          by_cases c53 : t732 = 0
          ·
           rw [if_pos c53] at H
           have c53b0 : (t732 == 0) = true := beq_iff_eq.mpr c53
           have c53b1 : (t732 != 0) = false := bne_eq_false_iff_eq.mpr c53
           clear c53
           by_cases c54 : t722 = true
           ·
            subst c54
            have H1 : (if (t725.length : Int) = 24 then (if (strOfNums t725).toList = (strOfNums t729).toList then (some (a1_1 == a2_1 && (a1_2 == a2_2 && (a1_3 == a2_3 && (a1_4 == a2_4))))) else (some (!(a1_1 == a2_1 && (a1_2 == a2_2 && (a1_3 == a2_3 && (a1_4 == a2_4))))))) else (none)) = some r := by rw [if_pos rfl] at H; exact H
            clear H
            have H := H1
            clear H1
            by_cases c55 : (t725.length : Int) = 24
            ·
             rw [if_pos c55] at H
             have c55b0 : ((t725.length : Int) == 24) = true := beq_iff_eq.mpr c55
             have c55b1 : ((t725.length : Int) != 24) = false := bne_eq_false_iff_eq.mpr c55
             clear c55
             by_cases c56 : (strOfNums t725).toList = (strOfNums t729).toList
             ·
              rw [if_pos c56] at H
              have c56b0 : ((strOfNums t725).toList == (strOfNums t729).toList) = true := beq_iff_eq.mpr c56
              have c56b1 : ((strOfNums t725).toList != (strOfNums t729).toList) = false := bne_eq_false_iff_eq.mpr c56
              clear c56
              obtain rfl := Option.some.inj H
              have hnb57 := NB721_720.out
              have hnc57 := NB720_721.out
              have hcz58_0 : wc.cell? ⟨gb721, 0, none⟩ = some (.int .i64 a2_0) := (blk_cell BK721.out 0).trans rfl
              have hcz58_1 : wc.cell? ⟨gb721, 1, none⟩ = some (.int .i64 a2_1) := (blk_cell BK721.out 1).trans rfl
              have hcz58_2 : wc.cell? ⟨gb721, 2, none⟩ = some (.int .u8 a2_2) := (blk_cell BK721.out 2).trans rfl
              have hcz58_3 : wc.cell? ⟨gb721, 3, none⟩ = some (.int .i64 a2_3) := (blk_cell BK721.out 3).trans rfl
              have hcz58_4 : wc.cell? ⟨gb721, 4, none⟩ = some (.int .i64 a2_4) := (blk_cell BK721.out 4).trans rfl
              have hfz58_0 := blk_frozen BK721.out 0
              have hfz58_1 := blk_frozen BK721.out 1
              have hfz58_2 := blk_frozen BK721.out 2
              have hfz58_3 := blk_frozen BK721.out 3
              have hfz58_4 := blk_frozen BK721.out 4
              have hcz59_0 : wc.cell? ⟨gb720, 0, none⟩ = some (.int .i64 a1_0) := (blk_cell BK720.out 0).trans rfl
              have hcz59_1 : wc.cell? ⟨gb720, 1, none⟩ = some (.int .i64 a1_1) := (blk_cell BK720.out 1).trans rfl
              have hcz59_2 : wc.cell? ⟨gb720, 2, none⟩ = some (.int .u8 a1_2) := (blk_cell BK720.out 2).trans rfl
              have hcz59_3 : wc.cell? ⟨gb720, 3, none⟩ = some (.int .i64 a1_3) := (blk_cell BK720.out 3).trans rfl
              have hcz59_4 : wc.cell? ⟨gb720, 4, none⟩ = some (.int .i64 a1_4) := (blk_cell BK720.out 4).trans rfl
              have hfz59_0 := blk_frozen BK720.out 0
              have hfz59_1 := blk_frozen BK720.out 1
              have hfz59_2 := blk_frozen BK720.out 2
              have hfz59_3 := blk_frozen BK720.out 3
              have hfz59_4 := blk_frozen BK720.out 4
              obtain ⟨Ao60, co60, eo60⟩ := Kd.R_slice HO_10.out
              subst eo60
              have hcv61 := own_string (P := Try.prog) Try.underlying24 Try.underlying5 Try.underlying9 (Kd.own_of_R HO_10.out)
              have hcv62 := fun n_ : Nat => own_string (P := Try.prog) Try.underlying24 Try.underlying5 Try.underlying9 (Kd.own_of_R (Kd.R_drewN HO_10.out n_))
              have hcv63 := fun (i_ : Nat) (u_ : Value) => own_string (P := Try.prog) Try.underlying24 Try.underlying5 Try.underlying9 (Kd.own_of_R (Kd.R_far (p := ⟨gb720, i_, none⟩) (Kd.R_types HO_10.out BK720.out (by decide)) (fun _ hk => hk.2) u_))
              have hcv64 := fun (i_ : Nat) (u_ : Value) (n_ : Nat) => own_string (P := Try.prog) Try.underlying24 Try.underlying5 Try.underlying9 (Kd.own_of_R (Kd.R_drewN (Kd.R_far (p := ⟨gb720, i_, none⟩) (Kd.R_types HO_10.out BK720.out (by decide)) (fun _ hk => hk.2) u_) n_))
              have hcv65 := fun (i_ : Nat) (u_ : Value) => own_string (P := Try.prog) Try.underlying24 Try.underlying5 Try.underlying9 (Kd.own_of_R (Kd.R_far (p := ⟨gb721, i_, none⟩) (Kd.R_types HO_10.out BK721.out (by decide)) (fun _ hk => hk.2) u_))
              have hcv66 := fun (i_ : Nat) (u_ : Value) (n_ : Nat) => own_string (P := Try.prog) Try.underlying24 Try.underlying5 Try.underlying9 (Kd.own_of_R (Kd.R_drewN (Kd.R_far (p := ⟨gb721, i_, none⟩) (Kd.R_types HO_10.out BK721.out (by decide)) (fun _ hk => hk.2) u_) n_))
              have hcv67 := own_string (P := Try.prog) Try.underlying24 Try.underlying5 Try.underlying9 (Kd.own_of_R HO_12.out)
              have hcv68 := fun n_ : Nat => own_string (P := Try.prog) Try.underlying24 Try.underlying5 Try.underlying9 (Kd.own_of_R (Kd.R_drewN HO_12.out n_))
              have hcv69 := fun (i_ : Nat) (u_ : Value) => own_string (P := Try.prog) Try.underlying24 Try.underlying5 Try.underlying9 (Kd.own_of_R (Kd.R_far (p := ⟨gb720, i_, none⟩) (Kd.R_types HO_12.out BK720.out (by decide)) (fun _ hk => hk.2) u_))
              have hcv70 := fun (i_ : Nat) (u_ : Value) (n_ : Nat) => own_string (P := Try.prog) Try.underlying24 Try.underlying5 Try.underlying9 (Kd.own_of_R (Kd.R_drewN (Kd.R_far (p := ⟨gb720, i_, none⟩) (Kd.R_types HO_12.out BK720.out (by decide)) (fun _ hk => hk.2) u_) n_))
              have hcv71 := fun (i_ : Nat) (u_ : Value) => own_string (P := Try.prog) Try.underlying24 Try.underlying5 Try.underlying9 (Kd.own_of_R (Kd.R_far (p := ⟨gb721, i_, none⟩) (Kd.R_types HO_12.out BK721.out (by decide)) (fun _ hk => hk.2) u_))
              have hcv72 := fun (i_ : Nat) (u_ : Value) (n_ : Nat) => own_string (P := Try.prog) Try.underlying24 Try.underlying5 Try.underlying9 (Kd.own_of_R (Kd.R_drewN (Kd.R_far (p := ⟨gb721, i_, none⟩) (Kd.R_types HO_12.out BK721.out (by decide)) (fun _ hk => hk.2) u_) n_))
              go_wp2
              repeat (go_quiet (fail); try go_wp2)
              go_ret
              exact ⟨by first | rfl | (simp [errW_none, errW_some] <;> rfl) | (simp [*, errW_none, errW_some] <;> rfl), by repeat (first | (with_reducible first | exact HB.out | apply below_alloc | apply pw_below_drewN | apply below_drew1 | refine below_set ?_ GE720.out | refine below_set ?_ GE721.out) | exact HB.out)⟩
             ·
              rw [if_neg c56] at H
              have c56b0 : ((strOfNums t725).toList == (strOfNums t729).toList) = false := beq_eq_false_iff_ne.mpr c56
              have c56b1 : ((strOfNums t725).toList != (strOfNums t729).toList) = true := bne_iff_ne.mpr c56
              obtain rfl := Option.some.inj H
              have hnb73 := NB721_720.out
              have hnc73 := NB720_721.out
              have hcz74_0 : wc.cell? ⟨gb721, 0, none⟩ = some (.int .i64 a2_0) := (blk_cell BK721.out 0).trans rfl
              have hcz74_1 : wc.cell? ⟨gb721, 1, none⟩ = some (.int .i64 a2_1) := (blk_cell BK721.out 1).trans rfl
              have hcz74_2 : wc.cell? ⟨gb721, 2, none⟩ = some (.int .u8 a2_2) := (blk_cell BK721.out 2).trans rfl
              have hcz74_3 : wc.cell? ⟨gb721, 3, none⟩ = some (.int .i64 a2_3) := (blk_cell BK721.out 3).trans rfl
              have hcz74_4 : wc.cell? ⟨gb721, 4, none⟩ = some (.int .i64 a2_4) := (blk_cell BK721.out 4).trans rfl
              have hfz74_0 := blk_frozen BK721.out 0
              have hfz74_1 := blk_frozen BK721.out 1
              have hfz74_2 := blk_frozen BK721.out 2
              have hfz74_3 := blk_frozen BK721.out 3
              have hfz74_4 := blk_frozen BK721.out 4
              have hcz75_0 : wc.cell? ⟨gb720, 0, none⟩ = some (.int .i64 a1_0) := (blk_cell BK720.out 0).trans rfl
              have hcz75_1 : wc.cell? ⟨gb720, 1, none⟩ = some (.int .i64 a1_1) := (blk_cell BK720.out 1).trans rfl
              have hcz75_2 : wc.cell? ⟨gb720, 2, none⟩ = some (.int .u8 a1_2) := (blk_cell BK720.out 2).trans rfl
              have hcz75_3 : wc.cell? ⟨gb720, 3, none⟩ = some (.int .i64 a1_3) := (blk_cell BK720.out 3).trans rfl
              have hcz75_4 : wc.cell? ⟨gb720, 4, none⟩ = some (.int .i64 a1_4) := (blk_cell BK720.out 4).trans rfl
              have hfz75_0 := blk_frozen BK720.out 0
              have hfz75_1 := blk_frozen BK720.out 1
              have hfz75_2 := blk_frozen BK720.out 2
              have hfz75_3 := blk_frozen BK720.out 3
              have hfz75_4 := blk_frozen BK720.out 4
              obtain ⟨Ao76, co76, eo76⟩ := Kd.R_slice HO_10.out
              subst eo76
              have hcv77 := own_string (P := Try.prog) Try.underlying24 Try.underlying5 Try.underlying9 (Kd.own_of_R HO_10.out)
              have hcv78 := fun n_ : Nat => own_string (P := Try.prog) Try.underlying24 Try.underlying5 Try.underlying9 (Kd.own_of_R (Kd.R_drewN HO_10.out n_))
              have hcv79 := fun (i_ : Nat) (u_ : Value) => own_string (P := Try.prog) Try.underlying24 Try.underlying5 Try.underlying9 (Kd.own_of_R (Kd.R_far (p := ⟨gb720, i_, none⟩) (Kd.R_types HO_10.out BK720.out (by decide)) (fun _ hk => hk.2) u_))
              have hcv80 := fun (i_ : Nat) (u_ : Value) (n_ : Nat) => own_string (P := Try.prog) Try.underlying24 Try.underlying5 Try.underlying9 (Kd.own_of_R (Kd.R_drewN (Kd.R_far (p := ⟨gb720, i_, none⟩) (Kd.R_types HO_10.out BK720.out (by decide)) (fun _ hk => hk.2) u_) n_))
              have hcv81 := fun (i_ : Nat) (u_ : Value) => own_string (P := Try.prog) Try.underlying24 Try.underlying5 Try.underlying9 (Kd.own_of_R (Kd.R_far (p := ⟨gb721, i_, none⟩) (Kd.R_types HO_10.out BK721.out (by decide)) (fun _ hk => hk.2) u_))
              have hcv82 := fun (i_ : Nat) (u_ : Value) (n_ : Nat) => own_string (P := Try.prog) Try.underlying24 Try.underlying5 Try.underlying9 (Kd.own_of_R (Kd.R_drewN (Kd.R_far (p := ⟨gb721, i_, none⟩) (Kd.R_types HO_10.out BK721.out (by decide)) (fun _ hk => hk.2) u_) n_))
              have hcv83 := own_string (P := Try.prog) Try.underlying24 Try.underlying5 Try.underlying9 (Kd.own_of_R HO_12.out)
              have hcv84 := fun n_ : Nat => own_string (P := Try.prog) Try.underlying24 Try.underlying5 Try.underlying9 (Kd.own_of_R (Kd.R_drewN HO_12.out n_))
              have hcv85 := fun (i_ : Nat) (u_ : Value) => own_string (P := Try.prog) Try.underlying24 Try.underlying5 Try.underlying9 (Kd.own_of_R (Kd.R_far (p := ⟨gb720, i_, none⟩) (Kd.R_types HO_12.out BK720.out (by decide)) (fun _ hk => hk.2) u_))
              have hcv86 := fun (i_ : Nat) (u_ : Value) (n_ : Nat) => own_string (P := Try.prog) Try.underlying24 Try.underlying5 Try.underlying9 (Kd.own_of_R (Kd.R_drewN (Kd.R_far (p := ⟨gb720, i_, none⟩) (Kd.R_types HO_12.out BK720.out (by decide)) (fun _ hk => hk.2) u_) n_))
              have hcv87 := fun (i_ : Nat) (u_ : Value) => own_string (P := Try.prog) Try.underlying24 Try.underlying5 Try.underlying9 (Kd.own_of_R (Kd.R_far (p := ⟨gb721, i_, none⟩) (Kd.R_types HO_12.out BK721.out (by decide)) (fun _ hk => hk.2) u_))
              have hcv88 := fun (i_ : Nat) (u_ : Value) (n_ : Nat) => own_string (P := Try.prog) Try.underlying24 Try.underlying5 Try.underlying9 (Kd.own_of_R (Kd.R_drewN (Kd.R_far (p := ⟨gb721, i_, none⟩) (Kd.R_types HO_12.out BK721.out (by decide)) (fun _ hk => hk.2) u_) n_))
              go_wp2
              repeat (go_quiet (fail); try go_wp2)
              go_ret
              exact ⟨by first | rfl | (simp [errW_none, errW_some] <;> rfl) | (simp [*, errW_none, errW_some] <;> rfl), by repeat (first | (with_reducible first | exact HB.out | apply below_alloc | apply pw_below_drewN | apply below_drew1 | refine below_set ?_ GE720.out | refine below_set ?_ GE721.out) | exact HB.out)⟩
            ·
             rw [if_neg c55] at H
             exact absurd H (by simp)
           ·
            replace c54 := Bool.eq_false_iff.mpr c54
            subst c54
            have H1 : (none) = some r := by rw [if_neg (show ¬ (false = true) by decide)] at H; exact H
            clear H
            have H := H1
            clear H1
            exact absurd H (by simp)
          ·
           rw [if_neg c53] at H
           have c53b0 : (t732 == 0) = false := beq_eq_false_iff_ne.mpr c53
           have c53b1 : (t732 != 0) = true := bne_iff_ne.mpr c53
           obtain rfl := Option.some.inj H
           go_wp2
           repeat (go_quiet (fail); try go_wp2)
           go_ret
           exact ⟨by first | rfl | (simp [errW_none, errW_some] <;> rfl) | (simp [*, errW_none, errW_some] <;> rfl), by repeat (first | (with_reducible first | exact HB.out | apply below_alloc | apply pw_below_drewN | apply below_drew1 | refine below_set ?_ GE720.out | refine below_set ?_ GE721.out) | exact HB.out)⟩
         ·
          rw [if_neg c52] at H
          have c52b0 : (t728 == 0) = false := beq_eq_false_iff_ne.mpr c52
          have c52b1 : (t728 != 0) = true := bne_iff_ne.mpr c52
          obtain rfl := Option.some.inj H
          go_wp2
          repeat (go_quiet (fail); try go_wp2)
          go_ret
          exact ⟨by first | rfl | (simp [errW_none, errW_some] <;> rfl) | (simp [*, errW_none, errW_some] <;> rfl), by repeat (first | (with_reducible first | exact HB.out | apply below_alloc | apply pw_below_drewN | apply below_drew1 | refine below_set ?_ GE720.out | refine below_set ?_ GE721.out) | exact HB.out)⟩

/-- THE ONE PURE STATEMENT of quoinlaw11_RelaFields: yours. -/
def quoinlaw11_RelaFields.Pure : Prop := ∀ (a0 : Int) (a1_0 : Int) (a1_1 : Int) (a1_2 : Int) (a1_3 : Int) (a1_4 : Int) (a2_0 : Int) (a2_1 : Int) (a2_2 : Int) (a2_3 : Int) (a2_4 : Int), (Lit.int .u8 a0).wf = true → (Lit.int .i64 a1_0).wf = true → (Lit.int .i64 a1_1).wf = true → (Lit.int .u8 a1_2).wf = true → (Lit.int .i64 a1_3).wf = true → (Lit.int .i64 a1_4).wf = true → (Lit.int .i64 a2_0).wf = true → (Lit.int .i64 a2_1).wf = true → (Lit.int .u8 a2_2).wf = true → (Lit.int .i64 a2_3).wf = true → (Lit.int .i64 a2_4).wf = true → ∃ k, quoinlaw11_RelaFields.f k a0 a1_0 a1_1 a1_2 a1_3 a1_4 a2_0 a2_1 a2_2 a2_3 a2_4 = some true
theorem quoinlaw11_RelaFields.walk (P : quoinlaw11_RelaFields.Pure) (a0 : Int) (a1_0 : Int) (a1_1 : Int) (a1_2 : Int) (a1_3 : Int) (a1_4 : Int) (a2_0 : Int) (a2_1 : Int) (a2_2 : Int) (a2_3 : Int) (a2_4 : Int) (w : World) (w0_0 : (Lit.int .u8 a0).wf = true) (w1_0 : (Lit.int .i64 a1_0).wf = true) (w1_1 : (Lit.int .i64 a1_1).wf = true) (w1_2 : (Lit.int .u8 a1_2).wf = true) (w1_3 : (Lit.int .i64 a1_3).wf = true) (w1_4 : (Lit.int .i64 a1_4).wf = true) (w2_0 : (Lit.int .i64 a2_0).wf = true) (w2_1 : (Lit.int .i64 a2_1).wf = true) (w2_2 : (Lit.int .u8 a2_2).wf = true) (w2_3 : (Lit.int .i64 a2_3).wf = true) (w2_4 : (Lit.int .i64 a2_4).wf = true) :
  Calls Try.prog 20 #[.int .u8 a0, .agg #[.int .i64 a1_0, .int .i64 a1_1, .int .u8 a1_2, .int .i64 a1_3, .int .i64 a1_4], .agg #[.int .i64 a2_0, .int .i64 a2_1, .int .u8 a2_2, .int .i64 a2_3, .int .i64 a2_4]] w fun e w' => e = .returned (.bool true) ∧ Below w.heap.size w w' := by
 obtain ⟨k, h⟩ := P a0 a1_0 a1_1 a1_2 a1_3 a1_4 a2_0 a2_1 a2_2 a2_3 a2_4 w0_0 w1_0 w1_1 w1_2 w1_3 w1_4 w2_0 w2_1 w2_2 w2_3 w2_4
 refine (quoinlaw11_RelaFields.calls k a0 a1_0 a1_1 a1_2 a1_3 a1_4 a2_0 a2_1 a2_2 a2_3 a2_4 true w h).mono ?_
 rintro e w' ⟨rfl, hd⟩
 exact ⟨rfl, hd⟩

end Go.Proofs.Ytomabnfeipobnaa.P
