-- Written by pext.py, a program of this session, over the kit's print: a function's contract
import Derived.Test.YtomabnfeipobnaaPx0
import Derived.Test.YtomabnfeipobnaaPx2
import Derived.Test.YtomabnfeipobnaaPx8
import Derived.Test.YtomabnfeipobnaaPx11
namespace Go.Proofs.Ytomabnfeipobnaa.P
open Go.RowKit Go.Proofs.YtomabnfeipobnaaW.PrintWords Go.Proofs.YtomabnfeipobnaaW.PrintLast Go.Proofs.YtomabnfeipobnaaW.PrintMore
attribute [local go_sem] max2_int min2_int max_two min_two max_three min_three max_four min_four   -- for this text's walks alone
set_option linter.unusedVariables false
set_option linter.unusedSimpArgs false

attribute [local go_sem high] eqA64
/-! ### quoinlaw10_SymUnlike: function 17 -/
def quoinlaw10_SymUnlike.j0 : Nat → Int → Int → Bool → List Int → Int → List Int → Int → Bool → ByteArray → Int → Bool → Int → Int → Int → ByteArray → Int → Bool → Int → Int → Int → Option (Bool)
 | 0, _, _, _, _, _, _, _, _, _, _, _, _, _, _, _, _, _, _, _, _ => none
 | k + 1, x1, x3, x9, x10, x11, x12, x13, x49, x627000, x627001, x627002, x627003, x627004, x627005, x628000, x628001, x628002, x628003, x628004, x628005 => if x49 = true then (none) else (if x11 = 0 then (if x13 = 0 then (if x9 = true then (if (x10.length : Int) = 24 then (if (x627001 == x628001 && (x627002 == x628002 && (x627003 == x628003 && (x627004 == x628004 && (x627005 == x628005))))) = true then (if (strOfNums x10).toList = (strOfNums x12).toList then (some (x1 == x3)) else (some (!(x1 == x3)))) else (if (strOfNums x10).toList = (strOfNums x12).toList then (none) else (some true))) else (none)) else (none)) else (some x9)) else (some x9))
def quoinlaw10_SymUnlike.f (k : Nat) (a0_0 : ByteArray) (a0_1 : Int) (a0_2 : Bool) (a0_3 : Int) (a0_4 : Int) (a0_5 : Int) (a1 : Int) (a2_0 : ByteArray) (a2_1 : Int) (a2_2 : Bool) (a2_3 : Int) (a2_4 : Int) (a2_5 : Int) (a3 : Int) : Option (Bool) := (quoinlaw10_alive.f k).bind fun t628 => ((sym_Write.f k a0_0 a0_1 a0_2 a0_3 a0_4 a0_5 a1).bind fun bt629 => ((sym_Write.f k a2_0 a2_1 a2_2 a2_3 a2_4 a2_5 a3).bind fun bt633 => ((sym_Check.f k a0_0 a0_1 a0_2 a0_3 a0_4 a0_5 16).bind fun t637 => (if t637 = 0 then (if a1 ≥ 0 then (if bt629.2 = 0 then (if a1 < 65536 then (quoinlaw10_SymUnlike.j0 k a1 a3 t628 bt629.1 bt629.2 bt633.1 bt633.2 false a0_0 a0_1 a0_2 a0_3 a0_4 a0_5 a2_0 a2_1 a2_2 a2_3 a2_4 a2_5) else (none)) else (if a1 < 65536 then (none) else (quoinlaw10_SymUnlike.j0 k a1 a3 t628 bt629.1 bt629.2 bt633.1 bt633.2 ((bt629.1.length : Int) != 0) a0_0 a0_1 a0_2 a0_3 a0_4 a0_5 a2_0 a2_1 a2_2 a2_3 a2_4 a2_5))) else (if bt629.2 = 0 then (none) else (quoinlaw10_SymUnlike.j0 k a1 a3 t628 bt629.1 bt629.2 bt633.1 bt633.2 ((bt629.1.length : Int) != 0) a0_0 a0_1 a0_2 a0_3 a0_4 a0_5 a2_0 a2_1 a2_2 a2_3 a2_4 a2_5))) else (if bt629.2 = 0 then (none) else (quoinlaw10_SymUnlike.j0 k a1 a3 t628 bt629.1 bt629.2 bt633.1 bt633.2 ((bt629.1.length : Int) != 0) a0_0 a0_1 a0_2 a0_3 a0_4 a0_5 a2_0 a2_1 a2_2 a2_3 a2_4 a2_5))))))
theorem quoinlaw10_SymUnlike.mono_l : ∀ k, (∀ y0 y1 y2 y3 y4 y5 y6 y7 y8 y9 y10 y11 y12 y13 y14 y15 y16 y17 y18 y19, LeO (quoinlaw10_SymUnlike.j0 k y0 y1 y2 y3 y4 y5 y6 y7 y8 y9 y10 y11 y12 y13 y14 y15 y16 y17 y18 y19) (quoinlaw10_SymUnlike.j0 (k + 1) y0 y1 y2 y3 y4 y5 y6 y7 y8 y9 y10 y11 y12 y13 y14 y15 y16 y17 y18 y19))
 | 0 => fun _ _ _ _ _ _ _ _ _ _ _ _ _ _ _ _ _ _ _ _ r h => by simp [quoinlaw10_SymUnlike.j0] at h
 | k + 1 => by
  have ih0 := quoinlaw10_SymUnlike.mono_l k
  ·
   intro y0 y1 y2 y3 y4 y5 y6 y7 y8 y9 y10 y11 y12 y13 y14 y15 y16 y17 y18 y19
   unfold quoinlaw10_SymUnlike.j0
   repeat' first
   | (with_reducible exact ih0 _ _ _ _ _ _ _ _ _ _ _ _ _ _ _ _ _ _ _ _)
   | (with_reducible exact quoinlaw10_alive.mono _)
   | (with_reducible exact sym_Check.mono _ _ _ _ _ _ _ _)
   | (with_reducible exact sym_Write.mono _ _ _ _ _ _ _ _)
   | (with_reducible exact LeO.refl _)
   | (with_reducible exact LeO.none _)
   | (with_reducible refine LeO.ite ?_ ?_)
   | (with_reducible refine LeO.bind ?_ (fun _ => ?_))
   | exact ih0 _ _ _ _ _ _ _ _ _ _ _ _ _ _ _ _ _ _ _ _
   | exact quoinlaw10_alive.mono _
   | exact sym_Check.mono _ _ _ _ _ _ _ _
   | exact sym_Write.mono _ _ _ _ _ _ _ _
   | exact LeO.none _
   | refine LeO.ite ?_ ?_
   | refine LeO.bind ?_ (fun _ => ?_)
theorem quoinlaw10_SymUnlike.mono : ∀ a0 a1 a2 a3 a4 a5 a6 a7 a8 a9 a10 a11 a12 a13 k, LeO (quoinlaw10_SymUnlike.f k a0 a1 a2 a3 a4 a5 a6 a7 a8 a9 a10 a11 a12 a13) (quoinlaw10_SymUnlike.f (k + 1) a0 a1 a2 a3 a4 a5 a6 a7 a8 a9 a10 a11 a12 a13) := by
 intro a0 a1 a2 a3 a4 a5 a6 a7 a8 a9 a10 a11 a12 a13 k
 have ih0 := quoinlaw10_SymUnlike.mono_l k
 unfold quoinlaw10_SymUnlike.f
 repeat' first
   | (with_reducible exact ih0 _ _ _ _ _ _ _ _ _ _ _ _ _ _ _ _ _ _ _ _)
   | (with_reducible exact quoinlaw10_alive.mono _)
   | (with_reducible exact sym_Check.mono _ _ _ _ _ _ _ _)
   | (with_reducible exact sym_Write.mono _ _ _ _ _ _ _ _)
   | (with_reducible exact LeO.refl _)
   | (with_reducible exact LeO.none _)
   | (with_reducible refine LeO.ite ?_ ?_)
   | (with_reducible refine LeO.bind ?_ (fun _ => ?_))
   | exact ih0 _ _ _ _ _ _ _ _ _ _ _ _ _ _ _ _ _ _ _ _
   | exact quoinlaw10_alive.mono _
   | exact sym_Check.mono _ _ _ _ _ _ _ _
   | exact sym_Write.mono _ _ _ _ _ _ _ _
   | exact LeO.none _
   | refine LeO.ite ?_ ?_
   | refine LeO.bind ?_ (fun _ => ?_)
set_option maxHeartbeats 8000000 in
set_option maxRecDepth 100000 in
theorem quoinlaw10_SymUnlike.calls (k : Nat) (a0_0 : ByteArray) (a0_1 : Int) (a0_2 : Bool) (a0_3 : Int) (a0_4 : Int) (a0_5 : Int) (a1 : Int) (a2_0 : ByteArray) (a2_1 : Int) (a2_2 : Bool) (a2_3 : Int) (a2_4 : Int) (a2_5 : Int) (a3 : Int) (r : Bool) (w : World) (h : quoinlaw10_SymUnlike.f k a0_0 a0_1 a0_2 a0_3 a0_4 a0_5 a1 a2_0 a2_1 a2_2 a2_3 a2_4 a2_5 a3 = some r) :
  Calls Try.prog 17 #[.agg #[.string a0_0, .int .u8 a0_1, .bool a0_2, .int .i64 a0_3, .int .i64 a0_4, .int .i64 a0_5], .int .i64 a1, .agg #[.string a2_0, .int .u8 a2_1, .bool a2_2, .int .i64 a2_3, .int .i64 a2_4, .int .i64 a2_5], .int .i64 a3] w fun e w' => e = .returned (.bool r) ∧ Below w.heap.size w w' := by
 have hu64 := Try.underlying64
 have HB := Aside0.mk (Below.refl w.heap.size w)
 have H : ((quoinlaw10_alive.f k).bind fun t628 => ((sym_Write.f k a0_0 a0_1 a0_2 a0_3 a0_4 a0_5 a1).bind fun bt629 => ((sym_Write.f k a2_0 a2_1 a2_2 a2_3 a2_4 a2_5 a3).bind fun bt633 => ((sym_Check.f k a0_0 a0_1 a0_2 a0_3 a0_4 a0_5 16).bind fun t637 => (if t637 = 0 then (if a1 ≥ 0 then (if bt629.2 = 0 then (if a1 < 65536 then (quoinlaw10_SymUnlike.j0 k a1 a3 t628 bt629.1 bt629.2 bt633.1 bt633.2 false a0_0 a0_1 a0_2 a0_3 a0_4 a0_5 a2_0 a2_1 a2_2 a2_3 a2_4 a2_5) else (none)) else (if a1 < 65536 then (none) else (quoinlaw10_SymUnlike.j0 k a1 a3 t628 bt629.1 bt629.2 bt633.1 bt633.2 ((bt629.1.length : Int) != 0) a0_0 a0_1 a0_2 a0_3 a0_4 a0_5 a2_0 a2_1 a2_2 a2_3 a2_4 a2_5))) else (if bt629.2 = 0 then (none) else (quoinlaw10_SymUnlike.j0 k a1 a3 t628 bt629.1 bt629.2 bt633.1 bt633.2 ((bt629.1.length : Int) != 0) a0_0 a0_1 a0_2 a0_3 a0_4 a0_5 a2_0 a2_1 a2_2 a2_3 a2_4 a2_5))) else (if bt629.2 = 0 then (none) else (quoinlaw10_SymUnlike.j0 k a1 a3 t628 bt629.1 bt629.2 bt633.1 bt633.2 ((bt629.1.length : Int) != 0) a0_0 a0_1 a0_2 a0_3 a0_4 a0_5 a2_0 a2_1 a2_2 a2_3 a2_4 a2_5))))))) = some r := h
 clear h
 replace H := Option.bind_eq_some_iff.mp H
 obtain ⟨t628, A50, H⟩ := H
 replace H : ((sym_Write.f k a0_0 a0_1 a0_2 a0_3 a0_4 a0_5 a1).bind fun bt629 => ((sym_Write.f k a2_0 a2_1 a2_2 a2_3 a2_4 a2_5 a3).bind fun bt633 => ((sym_Check.f k a0_0 a0_1 a0_2 a0_3 a0_4 a0_5 16).bind fun t637 => (if t637 = 0 then (if a1 ≥ 0 then (if bt629.2 = 0 then (if a1 < 65536 then (quoinlaw10_SymUnlike.j0 k a1 a3 t628 bt629.1 bt629.2 bt633.1 bt633.2 false a0_0 a0_1 a0_2 a0_3 a0_4 a0_5 a2_0 a2_1 a2_2 a2_3 a2_4 a2_5) else (none)) else (if a1 < 65536 then (none) else (quoinlaw10_SymUnlike.j0 k a1 a3 t628 bt629.1 bt629.2 bt633.1 bt633.2 ((bt629.1.length : Int) != 0) a0_0 a0_1 a0_2 a0_3 a0_4 a0_5 a2_0 a2_1 a2_2 a2_3 a2_4 a2_5))) else (if bt629.2 = 0 then (none) else (quoinlaw10_SymUnlike.j0 k a1 a3 t628 bt629.1 bt629.2 bt633.1 bt633.2 ((bt629.1.length : Int) != 0) a0_0 a0_1 a0_2 a0_3 a0_4 a0_5 a2_0 a2_1 a2_2 a2_3 a2_4 a2_5))) else (if bt629.2 = 0 then (none) else (quoinlaw10_SymUnlike.j0 k a1 a3 t628 bt629.1 bt629.2 bt633.1 bt633.2 ((bt629.1.length : Int) != 0) a0_0 a0_1 a0_2 a0_3 a0_4 a0_5 a2_0 a2_1 a2_2 a2_3 a2_4 a2_5)))))) = some r := H
 have A5 := Aside0.mk A50
 clear A50
 replace H := Option.bind_eq_some_iff.mp H
 obtain ⟨⟨t629, t632⟩, A60, H⟩ := H
 replace H : ((sym_Write.f k a2_0 a2_1 a2_2 a2_3 a2_4 a2_5 a3).bind fun bt633 => ((sym_Check.f k a0_0 a0_1 a0_2 a0_3 a0_4 a0_5 16).bind fun t637 => (if t637 = 0 then (if a1 ≥ 0 then (if t632 = 0 then (if a1 < 65536 then (quoinlaw10_SymUnlike.j0 k a1 a3 t628 t629 t632 bt633.1 bt633.2 false a0_0 a0_1 a0_2 a0_3 a0_4 a0_5 a2_0 a2_1 a2_2 a2_3 a2_4 a2_5) else (none)) else (if a1 < 65536 then (none) else (quoinlaw10_SymUnlike.j0 k a1 a3 t628 t629 t632 bt633.1 bt633.2 ((t629.length : Int) != 0) a0_0 a0_1 a0_2 a0_3 a0_4 a0_5 a2_0 a2_1 a2_2 a2_3 a2_4 a2_5))) else (if t632 = 0 then (none) else (quoinlaw10_SymUnlike.j0 k a1 a3 t628 t629 t632 bt633.1 bt633.2 ((t629.length : Int) != 0) a0_0 a0_1 a0_2 a0_3 a0_4 a0_5 a2_0 a2_1 a2_2 a2_3 a2_4 a2_5))) else (if t632 = 0 then (none) else (quoinlaw10_SymUnlike.j0 k a1 a3 t628 t629 t632 bt633.1 bt633.2 ((t629.length : Int) != 0) a0_0 a0_1 a0_2 a0_3 a0_4 a0_5 a2_0 a2_1 a2_2 a2_3 a2_4 a2_5))))) = some r := H
 have A6 := Aside0.mk A60
 clear A60
 replace H := Option.bind_eq_some_iff.mp H
 obtain ⟨⟨t633, t636⟩, A70, H⟩ := H
 replace H : ((sym_Check.f k a0_0 a0_1 a0_2 a0_3 a0_4 a0_5 16).bind fun t637 => (if t637 = 0 then (if a1 ≥ 0 then (if t632 = 0 then (if a1 < 65536 then (quoinlaw10_SymUnlike.j0 k a1 a3 t628 t629 t632 t633 t636 false a0_0 a0_1 a0_2 a0_3 a0_4 a0_5 a2_0 a2_1 a2_2 a2_3 a2_4 a2_5) else (none)) else (if a1 < 65536 then (none) else (quoinlaw10_SymUnlike.j0 k a1 a3 t628 t629 t632 t633 t636 ((t629.length : Int) != 0) a0_0 a0_1 a0_2 a0_3 a0_4 a0_5 a2_0 a2_1 a2_2 a2_3 a2_4 a2_5))) else (if t632 = 0 then (none) else (quoinlaw10_SymUnlike.j0 k a1 a3 t628 t629 t632 t633 t636 ((t629.length : Int) != 0) a0_0 a0_1 a0_2 a0_3 a0_4 a0_5 a2_0 a2_1 a2_2 a2_3 a2_4 a2_5))) else (if t632 = 0 then (none) else (quoinlaw10_SymUnlike.j0 k a1 a3 t628 t629 t632 t633 t636 ((t629.length : Int) != 0) a0_0 a0_1 a0_2 a0_3 a0_4 a0_5 a2_0 a2_1 a2_2 a2_3 a2_4 a2_5)))) = some r := H
 have A7 := Aside0.mk A70
 clear A70
 have HC8 := Aside0.mk H
 clear H
 go_enter Try.func17, Try.ntmps17
 go_upto_region 4 with (first | ((with_reducible refine gate_dst (N := 4) rfl ?_); (try (refine gate_guard (by rfl) ?_; dsimp only)); refine box_event ?hg (N := 4) ?hd (cs := #[.string a0_0, .int .u8 a0_1, .bool a0_2, .int .i64 a0_3, .int .i64 a0_4, .int .i64 a0_5]) (t := 64) ?hr ?_; (case hd => rfl); (case hg => rfl); (case hr => first | (go_simp; done) | (go_simp; rfl)); intro gb626 hg w9 hbox hb; have n0_ := Aside0.mk (below_step (by repeat (first | (with_reducible first | exact HB.out | apply below_alloc | apply pw_below_drewN | apply below_drew1) | exact HB.out)) hb); have n1_ := Aside0.mk (hbox); have n2_ := Aside0.mk ((by rw [hg]; exact (below_size (by repeat (first | (with_reducible first | exact HB.out | apply below_alloc | apply pw_below_drewN | apply below_drew1) | exact HB.out))) : w.heap.size ≤ gb626)); have n3_ := Aside0.mk ((by rw [hg]; exact (below_size (by repeat (first | (with_reducible first | exact HB.out | apply below_alloc | apply pw_below_drewN | apply below_drew1) | exact HB.out))) : w.heap.size ≤ gb626)); clear HB; have HB := n0_; have BK626 := n1_; have GW626 := n2_; have GE626 := n3_; clear n0_ n1_ n2_ n3_; clear hb hbox hg) | ((with_reducible refine gate_dst (N := 6) rfl ?_); (try (refine gate_guard (by rfl) ?_; dsimp only)); refine box_event ?hg (N := 6) ?hd (cs := #[.string a2_0, .int .u8 a2_1, .bool a2_2, .int .i64 a2_3, .int .i64 a2_4, .int .i64 a2_5]) (t := 64) ?hr ?_; (case hd => rfl); (case hg => rfl); (case hr => first | (go_simp; done) | (go_simp; rfl)); intro gb627 hg w10 hbox hb; have n0_ := Aside0.mk (blk_below (g := gb626) (o := .cells #[.string a0_0, .int .u8 a0_1, .bool a0_2, .int .i64 a0_3, .int .i64 a0_4, .int .i64 a0_5] 64 (0, 0)) (by (with_reducible repeat (first | refine blk_drewN ?_ _ | refine blk_drew ?_ | refine blk_alloc ?_ _)); exact BK626.out) hb); have n1_ := Aside0.mk (below_step (by repeat (first | (with_reducible first | exact HB.out | apply below_alloc | apply pw_below_drewN | apply below_drew1 | refine below_set ?_ GE626.out) | exact HB.out)) hb); have n2_ := Aside0.mk (hbox); have n3_ := Aside0.mk ((by rw [hg]; exact (below_size (by repeat (first | (with_reducible first | exact HB.out | apply below_alloc | apply pw_below_drewN | apply below_drew1 | refine below_set ?_ GE626.out) | exact HB.out))) : w.heap.size ≤ gb627)); have n4_ := Aside0.mk ((by rw [hg]; exact (below_size (by repeat (first | (with_reducible first | exact HB.out | apply below_alloc | apply pw_below_drewN | apply below_drew1 | refine below_set ?_ GE626.out) | exact HB.out))) : w.heap.size ≤ gb627)); have n5_ := Aside0.mk ((by rw [hg]; exact Nat.ne_of_lt (blk_lt (g := gb626) (o := .cells #[.string a0_0, .int .u8 a0_1, .bool a0_2, .int .i64 a0_3, .int .i64 a0_4, .int .i64 a0_5] 64 (0, 0)) (by (with_reducible repeat (first | refine blk_drewN ?_ _ | refine blk_drew ?_ | refine blk_alloc ?_ _)); exact BK626.out)) : gb626 ≠ gb627)); have n6_ := Aside0.mk ((by rw [hg]; exact Nat.ne_of_gt (blk_lt (g := gb626) (o := .cells #[.string a0_0, .int .u8 a0_1, .bool a0_2, .int .i64 a0_3, .int .i64 a0_4, .int .i64 a0_5] 64 (0, 0)) (by (with_reducible repeat (first | refine blk_drewN ?_ _ | refine blk_drew ?_ | refine blk_alloc ?_ _)); exact BK626.out)) : gb627 ≠ gb626)); clear BK626; clear HB; have BK626 := n0_; have HB := n1_; have BK627 := n2_; have GW627 := n3_; have GE627 := n4_; have NB626_627 := n5_; have NB627_626 := n6_; clear n0_ n1_ n2_ n3_ n4_ n5_ n6_; clear hb hbox hg) | (go_at_call 49; (with_reducible refine (quoinlaw10_alive.calls k  t628 _ A5.out).mono ?_); rintro e w11 ⟨rfl, hb⟩; have n0_ := Aside0.mk (blk_below (g := gb626) (o := .cells #[.string a0_0, .int .u8 a0_1, .bool a0_2, .int .i64 a0_3, .int .i64 a0_4, .int .i64 a0_5] 64 (0, 0)) (by (with_reducible repeat (first | refine blk_drewN ?_ _ | refine blk_drew ?_ | refine blk_alloc ?_ _)); exact BK626.out) hb); have n1_ := Aside0.mk (blk_below (g := gb627) (o := .cells #[.string a2_0, .int .u8 a2_1, .bool a2_2, .int .i64 a2_3, .int .i64 a2_4, .int .i64 a2_5] 64 (0, 0)) (by (with_reducible repeat (first | refine blk_drewN ?_ _ | refine blk_drew ?_ | refine blk_alloc ?_ _)); exact BK627.out) hb); have n2_ := Aside0.mk (below_step (by repeat (first | (with_reducible first | exact HB.out | apply below_alloc | apply pw_below_drewN | apply below_drew1 | refine below_set ?_ GE626.out | refine below_set ?_ GE627.out) | exact HB.out)) hb); clear BK626; clear BK627; clear HB; have BK626 := n0_; have BK627 := n1_; have HB := n2_; clear n0_ n1_ n2_; (try clear hb); (try clear hb2); (try clear hk); (try clear hi); have hnb12 := NB626_627.out; have hnc12 := NB627_626.out; have hcz13_0 : w11.cell? ⟨gb626, 0, none⟩ = some (.string a0_0) := (blk_cell BK626.out 0).trans rfl; have hcz13_1 : w11.cell? ⟨gb626, 1, none⟩ = some (.int .u8 a0_1) := (blk_cell BK626.out 1).trans rfl; have hcz13_2 : w11.cell? ⟨gb626, 2, none⟩ = some (.bool a0_2) := (blk_cell BK626.out 2).trans rfl; have hcz13_3 : w11.cell? ⟨gb626, 3, none⟩ = some (.int .i64 a0_3) := (blk_cell BK626.out 3).trans rfl; have hcz13_4 : w11.cell? ⟨gb626, 4, none⟩ = some (.int .i64 a0_4) := (blk_cell BK626.out 4).trans rfl; have hcz13_5 : w11.cell? ⟨gb626, 5, none⟩ = some (.int .i64 a0_5) := (blk_cell BK626.out 5).trans rfl; have hfz13_0 := blk_frozen BK626.out 0; have hfz13_1 := blk_frozen BK626.out 1; have hfz13_2 := blk_frozen BK626.out 2; have hfz13_3 := blk_frozen BK626.out 3; have hfz13_4 := blk_frozen BK626.out 4; have hfz13_5 := blk_frozen BK626.out 5) | (go_at_call 51; (with_reducible refine (sym_Write.calls k a0_0 a0_1 a0_2 a0_3 a0_4 a0_5 a1 t629 t632 _ A6.out).mono ?_); rintro e w14 ⟨v630, rfl, ho0, hb⟩; have n0_ := Aside0.mk (Kd.R_lower ho0 (below_size (by repeat (first | (with_reducible first | exact HB.out | apply below_alloc | apply pw_below_drewN | apply below_drew1 | refine below_set ?_ GE626.out | refine below_set ?_ GE627.out) | exact HB.out)))); have n1_ := Aside0.mk (blk_below (g := gb626) (o := .cells #[.string a0_0, .int .u8 a0_1, .bool a0_2, .int .i64 a0_3, .int .i64 a0_4, .int .i64 a0_5] 64 (0, 0)) (by (with_reducible repeat (first | refine blk_drewN ?_ _ | refine blk_drew ?_ | refine blk_alloc ?_ _)); exact BK626.out) hb); have n2_ := Aside0.mk (blk_below (g := gb627) (o := .cells #[.string a2_0, .int .u8 a2_1, .bool a2_2, .int .i64 a2_3, .int .i64 a2_4, .int .i64 a2_5] 64 (0, 0)) (by (with_reducible repeat (first | refine blk_drewN ?_ _ | refine blk_drew ?_ | refine blk_alloc ?_ _)); exact BK627.out) hb); have n3_ := Aside0.mk (below_step (by repeat (first | (with_reducible first | exact HB.out | apply below_alloc | apply pw_below_drewN | apply below_drew1 | refine below_set ?_ GE626.out | refine below_set ?_ GE627.out) | exact HB.out)) hb); clear BK626; clear BK627; clear HB; have HO631 := n0_; have BK626 := n1_; have BK627 := n2_; have HB := n3_; clear n0_ n1_ n2_ n3_; (try clear hb); (try clear hb2); (try clear hk); (try clear hi); (try clear ho0); have hcz15_0 : w14.cell? ⟨gb627, 0, none⟩ = some (.string a2_0) := (blk_cell BK627.out 0).trans rfl; have hcz15_1 : w14.cell? ⟨gb627, 1, none⟩ = some (.int .u8 a2_1) := (blk_cell BK627.out 1).trans rfl; have hcz15_2 : w14.cell? ⟨gb627, 2, none⟩ = some (.bool a2_2) := (blk_cell BK627.out 2).trans rfl; have hcz15_3 : w14.cell? ⟨gb627, 3, none⟩ = some (.int .i64 a2_3) := (blk_cell BK627.out 3).trans rfl; have hcz15_4 : w14.cell? ⟨gb627, 4, none⟩ = some (.int .i64 a2_4) := (blk_cell BK627.out 4).trans rfl; have hcz15_5 : w14.cell? ⟨gb627, 5, none⟩ = some (.int .i64 a2_5) := (blk_cell BK627.out 5).trans rfl; have hfz15_0 := blk_frozen BK627.out 0; have hfz15_1 := blk_frozen BK627.out 1; have hfz15_2 := blk_frozen BK627.out 2; have hfz15_3 := blk_frozen BK627.out 3; have hfz15_4 := blk_frozen BK627.out 4; have hfz15_5 := blk_frozen BK627.out 5) | (go_at_call 51; (with_reducible refine (sym_Write.calls k a2_0 a2_1 a2_2 a2_3 a2_4 a2_5 a3 t633 t636 _ A7.out).mono ?_); rintro e w16 ⟨v634, rfl, ho0, hb⟩; have n0_ := Aside0.mk (Kd.R_elder' (by (with_reducible repeat (first | apply Kd.R_alloc | apply Kd.R_drewN | apply Kd.R_drew)); exact HO631.out) (Kd.R_base ho0) hb); have n1_ := Aside0.mk (Kd.R_lower (Kd.R_new' ho0 (Kd.R_lt (by (with_reducible repeat (first | apply Kd.R_alloc | apply Kd.R_drewN | apply Kd.R_drew)); exact HO631.out))) (below_size (by repeat (first | (with_reducible first | exact HB.out | apply below_alloc | apply pw_below_drewN | apply below_drew1 | refine below_set ?_ GE626.out | refine below_set ?_ GE627.out) | exact HB.out)))); have n2_ := Aside0.mk (blk_below (g := gb626) (o := .cells #[.string a0_0, .int .u8 a0_1, .bool a0_2, .int .i64 a0_3, .int .i64 a0_4, .int .i64 a0_5] 64 (0, 0)) (by (with_reducible repeat (first | refine blk_drewN ?_ _ | refine blk_drew ?_ | refine blk_alloc ?_ _)); exact BK626.out) hb); have n3_ := Aside0.mk (blk_below (g := gb627) (o := .cells #[.string a2_0, .int .u8 a2_1, .bool a2_2, .int .i64 a2_3, .int .i64 a2_4, .int .i64 a2_5] 64 (0, 0)) (by (with_reducible repeat (first | refine blk_drewN ?_ _ | refine blk_drew ?_ | refine blk_alloc ?_ _)); exact BK627.out) hb); have n4_ := Aside0.mk (below_step (by repeat (first | (with_reducible first | exact HB.out | apply below_alloc | apply pw_below_drewN | apply below_drew1 | refine below_set ?_ GE626.out | refine below_set ?_ GE627.out) | exact HB.out)) hb); clear HO631; clear BK626; clear BK627; clear HB; have HO631 := n0_; have HO635 := n1_; have BK626 := n2_; have BK627 := n3_; have HB := n4_; clear n0_ n1_ n2_ n3_ n4_; (try clear hb); (try clear hb2); (try clear hk); (try clear hi); (try clear ho0)))
 repeat (go_quiet (first | ((with_reducible refine gate_dst (N := 4) rfl ?_); (try (refine gate_guard (by rfl) ?_; dsimp only)); refine box_event ?hg (N := 4) ?hd (cs := #[.string a0_0, .int .u8 a0_1, .bool a0_2, .int .i64 a0_3, .int .i64 a0_4, .int .i64 a0_5]) (t := 64) ?hr ?_; (case hd => rfl); (case hg => rfl); (case hr => first | (go_simp; done) | (go_simp; rfl)); intro gb626 hg w9 hbox hb; have n0_ := Aside0.mk (below_step (by repeat (first | (with_reducible first | exact HB.out | apply below_alloc | apply pw_below_drewN | apply below_drew1) | exact HB.out)) hb); have n1_ := Aside0.mk (hbox); have n2_ := Aside0.mk ((by rw [hg]; exact (below_size (by repeat (first | (with_reducible first | exact HB.out | apply below_alloc | apply pw_below_drewN | apply below_drew1) | exact HB.out))) : w.heap.size ≤ gb626)); have n3_ := Aside0.mk ((by rw [hg]; exact (below_size (by repeat (first | (with_reducible first | exact HB.out | apply below_alloc | apply pw_below_drewN | apply below_drew1) | exact HB.out))) : w.heap.size ≤ gb626)); clear HB; have HB := n0_; have BK626 := n1_; have GW626 := n2_; have GE626 := n3_; clear n0_ n1_ n2_ n3_; clear hb hbox hg) | ((with_reducible refine gate_dst (N := 6) rfl ?_); (try (refine gate_guard (by rfl) ?_; dsimp only)); refine box_event ?hg (N := 6) ?hd (cs := #[.string a2_0, .int .u8 a2_1, .bool a2_2, .int .i64 a2_3, .int .i64 a2_4, .int .i64 a2_5]) (t := 64) ?hr ?_; (case hd => rfl); (case hg => rfl); (case hr => first | (go_simp; done) | (go_simp; rfl)); intro gb627 hg w10 hbox hb; have n0_ := Aside0.mk (blk_below (g := gb626) (o := .cells #[.string a0_0, .int .u8 a0_1, .bool a0_2, .int .i64 a0_3, .int .i64 a0_4, .int .i64 a0_5] 64 (0, 0)) (by (with_reducible repeat (first | refine blk_drewN ?_ _ | refine blk_drew ?_ | refine blk_alloc ?_ _)); exact BK626.out) hb); have n1_ := Aside0.mk (below_step (by repeat (first | (with_reducible first | exact HB.out | apply below_alloc | apply pw_below_drewN | apply below_drew1 | refine below_set ?_ GE626.out) | exact HB.out)) hb); have n2_ := Aside0.mk (hbox); have n3_ := Aside0.mk ((by rw [hg]; exact (below_size (by repeat (first | (with_reducible first | exact HB.out | apply below_alloc | apply pw_below_drewN | apply below_drew1 | refine below_set ?_ GE626.out) | exact HB.out))) : w.heap.size ≤ gb627)); have n4_ := Aside0.mk ((by rw [hg]; exact (below_size (by repeat (first | (with_reducible first | exact HB.out | apply below_alloc | apply pw_below_drewN | apply below_drew1 | refine below_set ?_ GE626.out) | exact HB.out))) : w.heap.size ≤ gb627)); have n5_ := Aside0.mk ((by rw [hg]; exact Nat.ne_of_lt (blk_lt (g := gb626) (o := .cells #[.string a0_0, .int .u8 a0_1, .bool a0_2, .int .i64 a0_3, .int .i64 a0_4, .int .i64 a0_5] 64 (0, 0)) (by (with_reducible repeat (first | refine blk_drewN ?_ _ | refine blk_drew ?_ | refine blk_alloc ?_ _)); exact BK626.out)) : gb626 ≠ gb627)); have n6_ := Aside0.mk ((by rw [hg]; exact Nat.ne_of_gt (blk_lt (g := gb626) (o := .cells #[.string a0_0, .int .u8 a0_1, .bool a0_2, .int .i64 a0_3, .int .i64 a0_4, .int .i64 a0_5] 64 (0, 0)) (by (with_reducible repeat (first | refine blk_drewN ?_ _ | refine blk_drew ?_ | refine blk_alloc ?_ _)); exact BK626.out)) : gb627 ≠ gb626)); clear BK626; clear HB; have BK626 := n0_; have HB := n1_; have BK627 := n2_; have GW627 := n3_; have GE627 := n4_; have NB626_627 := n5_; have NB627_626 := n6_; clear n0_ n1_ n2_ n3_ n4_ n5_ n6_; clear hb hbox hg) | (go_at_call 49; (with_reducible refine (quoinlaw10_alive.calls k  t628 _ A5.out).mono ?_); rintro e w11 ⟨rfl, hb⟩; have n0_ := Aside0.mk (blk_below (g := gb626) (o := .cells #[.string a0_0, .int .u8 a0_1, .bool a0_2, .int .i64 a0_3, .int .i64 a0_4, .int .i64 a0_5] 64 (0, 0)) (by (with_reducible repeat (first | refine blk_drewN ?_ _ | refine blk_drew ?_ | refine blk_alloc ?_ _)); exact BK626.out) hb); have n1_ := Aside0.mk (blk_below (g := gb627) (o := .cells #[.string a2_0, .int .u8 a2_1, .bool a2_2, .int .i64 a2_3, .int .i64 a2_4, .int .i64 a2_5] 64 (0, 0)) (by (with_reducible repeat (first | refine blk_drewN ?_ _ | refine blk_drew ?_ | refine blk_alloc ?_ _)); exact BK627.out) hb); have n2_ := Aside0.mk (below_step (by repeat (first | (with_reducible first | exact HB.out | apply below_alloc | apply pw_below_drewN | apply below_drew1 | refine below_set ?_ GE626.out | refine below_set ?_ GE627.out) | exact HB.out)) hb); clear BK626; clear BK627; clear HB; have BK626 := n0_; have BK627 := n1_; have HB := n2_; clear n0_ n1_ n2_; (try clear hb); (try clear hb2); (try clear hk); (try clear hi); have hnb12 := NB626_627.out; have hnc12 := NB627_626.out; have hcz13_0 : w11.cell? ⟨gb626, 0, none⟩ = some (.string a0_0) := (blk_cell BK626.out 0).trans rfl; have hcz13_1 : w11.cell? ⟨gb626, 1, none⟩ = some (.int .u8 a0_1) := (blk_cell BK626.out 1).trans rfl; have hcz13_2 : w11.cell? ⟨gb626, 2, none⟩ = some (.bool a0_2) := (blk_cell BK626.out 2).trans rfl; have hcz13_3 : w11.cell? ⟨gb626, 3, none⟩ = some (.int .i64 a0_3) := (blk_cell BK626.out 3).trans rfl; have hcz13_4 : w11.cell? ⟨gb626, 4, none⟩ = some (.int .i64 a0_4) := (blk_cell BK626.out 4).trans rfl; have hcz13_5 : w11.cell? ⟨gb626, 5, none⟩ = some (.int .i64 a0_5) := (blk_cell BK626.out 5).trans rfl; have hfz13_0 := blk_frozen BK626.out 0; have hfz13_1 := blk_frozen BK626.out 1; have hfz13_2 := blk_frozen BK626.out 2; have hfz13_3 := blk_frozen BK626.out 3; have hfz13_4 := blk_frozen BK626.out 4; have hfz13_5 := blk_frozen BK626.out 5) | (go_at_call 51; (with_reducible refine (sym_Write.calls k a0_0 a0_1 a0_2 a0_3 a0_4 a0_5 a1 t629 t632 _ A6.out).mono ?_); rintro e w14 ⟨v630, rfl, ho0, hb⟩; have n0_ := Aside0.mk (Kd.R_lower ho0 (below_size (by repeat (first | (with_reducible first | exact HB.out | apply below_alloc | apply pw_below_drewN | apply below_drew1 | refine below_set ?_ GE626.out | refine below_set ?_ GE627.out) | exact HB.out)))); have n1_ := Aside0.mk (blk_below (g := gb626) (o := .cells #[.string a0_0, .int .u8 a0_1, .bool a0_2, .int .i64 a0_3, .int .i64 a0_4, .int .i64 a0_5] 64 (0, 0)) (by (with_reducible repeat (first | refine blk_drewN ?_ _ | refine blk_drew ?_ | refine blk_alloc ?_ _)); exact BK626.out) hb); have n2_ := Aside0.mk (blk_below (g := gb627) (o := .cells #[.string a2_0, .int .u8 a2_1, .bool a2_2, .int .i64 a2_3, .int .i64 a2_4, .int .i64 a2_5] 64 (0, 0)) (by (with_reducible repeat (first | refine blk_drewN ?_ _ | refine blk_drew ?_ | refine blk_alloc ?_ _)); exact BK627.out) hb); have n3_ := Aside0.mk (below_step (by repeat (first | (with_reducible first | exact HB.out | apply below_alloc | apply pw_below_drewN | apply below_drew1 | refine below_set ?_ GE626.out | refine below_set ?_ GE627.out) | exact HB.out)) hb); clear BK626; clear BK627; clear HB; have HO631 := n0_; have BK626 := n1_; have BK627 := n2_; have HB := n3_; clear n0_ n1_ n2_ n3_; (try clear hb); (try clear hb2); (try clear hk); (try clear hi); (try clear ho0); have hcz15_0 : w14.cell? ⟨gb627, 0, none⟩ = some (.string a2_0) := (blk_cell BK627.out 0).trans rfl; have hcz15_1 : w14.cell? ⟨gb627, 1, none⟩ = some (.int .u8 a2_1) := (blk_cell BK627.out 1).trans rfl; have hcz15_2 : w14.cell? ⟨gb627, 2, none⟩ = some (.bool a2_2) := (blk_cell BK627.out 2).trans rfl; have hcz15_3 : w14.cell? ⟨gb627, 3, none⟩ = some (.int .i64 a2_3) := (blk_cell BK627.out 3).trans rfl; have hcz15_4 : w14.cell? ⟨gb627, 4, none⟩ = some (.int .i64 a2_4) := (blk_cell BK627.out 4).trans rfl; have hcz15_5 : w14.cell? ⟨gb627, 5, none⟩ = some (.int .i64 a2_5) := (blk_cell BK627.out 5).trans rfl; have hfz15_0 := blk_frozen BK627.out 0; have hfz15_1 := blk_frozen BK627.out 1; have hfz15_2 := blk_frozen BK627.out 2; have hfz15_3 := blk_frozen BK627.out 3; have hfz15_4 := blk_frozen BK627.out 4; have hfz15_5 := blk_frozen BK627.out 5) | (go_at_call 51; (with_reducible refine (sym_Write.calls k a2_0 a2_1 a2_2 a2_3 a2_4 a2_5 a3 t633 t636 _ A7.out).mono ?_); rintro e w16 ⟨v634, rfl, ho0, hb⟩; have n0_ := Aside0.mk (Kd.R_elder' (by (with_reducible repeat (first | apply Kd.R_alloc | apply Kd.R_drewN | apply Kd.R_drew)); exact HO631.out) (Kd.R_base ho0) hb); have n1_ := Aside0.mk (Kd.R_lower (Kd.R_new' ho0 (Kd.R_lt (by (with_reducible repeat (first | apply Kd.R_alloc | apply Kd.R_drewN | apply Kd.R_drew)); exact HO631.out))) (below_size (by repeat (first | (with_reducible first | exact HB.out | apply below_alloc | apply pw_below_drewN | apply below_drew1 | refine below_set ?_ GE626.out | refine below_set ?_ GE627.out) | exact HB.out)))); have n2_ := Aside0.mk (blk_below (g := gb626) (o := .cells #[.string a0_0, .int .u8 a0_1, .bool a0_2, .int .i64 a0_3, .int .i64 a0_4, .int .i64 a0_5] 64 (0, 0)) (by (with_reducible repeat (first | refine blk_drewN ?_ _ | refine blk_drew ?_ | refine blk_alloc ?_ _)); exact BK626.out) hb); have n3_ := Aside0.mk (blk_below (g := gb627) (o := .cells #[.string a2_0, .int .u8 a2_1, .bool a2_2, .int .i64 a2_3, .int .i64 a2_4, .int .i64 a2_5] 64 (0, 0)) (by (with_reducible repeat (first | refine blk_drewN ?_ _ | refine blk_drew ?_ | refine blk_alloc ?_ _)); exact BK627.out) hb); have n4_ := Aside0.mk (below_step (by repeat (first | (with_reducible first | exact HB.out | apply below_alloc | apply pw_below_drewN | apply below_drew1 | refine below_set ?_ GE626.out | refine below_set ?_ GE627.out) | exact HB.out)) hb); clear HO631; clear BK626; clear BK627; clear HB; have HO631 := n0_; have HO635 := n1_; have BK626 := n2_; have BK627 := n3_; have HB := n4_; clear n0_ n1_ n2_ n3_ n4_; (try clear hb); (try clear hb2); (try clear hk); (try clear hi); (try clear ho0))); go_upto_region 4 with (first | ((with_reducible refine gate_dst (N := 4) rfl ?_); (try (refine gate_guard (by rfl) ?_; dsimp only)); refine box_event ?hg (N := 4) ?hd (cs := #[.string a0_0, .int .u8 a0_1, .bool a0_2, .int .i64 a0_3, .int .i64 a0_4, .int .i64 a0_5]) (t := 64) ?hr ?_; (case hd => rfl); (case hg => rfl); (case hr => first | (go_simp; done) | (go_simp; rfl)); intro gb626 hg w9 hbox hb; have n0_ := Aside0.mk (below_step (by repeat (first | (with_reducible first | exact HB.out | apply below_alloc | apply pw_below_drewN | apply below_drew1) | exact HB.out)) hb); have n1_ := Aside0.mk (hbox); have n2_ := Aside0.mk ((by rw [hg]; exact (below_size (by repeat (first | (with_reducible first | exact HB.out | apply below_alloc | apply pw_below_drewN | apply below_drew1) | exact HB.out))) : w.heap.size ≤ gb626)); have n3_ := Aside0.mk ((by rw [hg]; exact (below_size (by repeat (first | (with_reducible first | exact HB.out | apply below_alloc | apply pw_below_drewN | apply below_drew1) | exact HB.out))) : w.heap.size ≤ gb626)); clear HB; have HB := n0_; have BK626 := n1_; have GW626 := n2_; have GE626 := n3_; clear n0_ n1_ n2_ n3_; clear hb hbox hg) | ((with_reducible refine gate_dst (N := 6) rfl ?_); (try (refine gate_guard (by rfl) ?_; dsimp only)); refine box_event ?hg (N := 6) ?hd (cs := #[.string a2_0, .int .u8 a2_1, .bool a2_2, .int .i64 a2_3, .int .i64 a2_4, .int .i64 a2_5]) (t := 64) ?hr ?_; (case hd => rfl); (case hg => rfl); (case hr => first | (go_simp; done) | (go_simp; rfl)); intro gb627 hg w10 hbox hb; have n0_ := Aside0.mk (blk_below (g := gb626) (o := .cells #[.string a0_0, .int .u8 a0_1, .bool a0_2, .int .i64 a0_3, .int .i64 a0_4, .int .i64 a0_5] 64 (0, 0)) (by (with_reducible repeat (first | refine blk_drewN ?_ _ | refine blk_drew ?_ | refine blk_alloc ?_ _)); exact BK626.out) hb); have n1_ := Aside0.mk (below_step (by repeat (first | (with_reducible first | exact HB.out | apply below_alloc | apply pw_below_drewN | apply below_drew1 | refine below_set ?_ GE626.out) | exact HB.out)) hb); have n2_ := Aside0.mk (hbox); have n3_ := Aside0.mk ((by rw [hg]; exact (below_size (by repeat (first | (with_reducible first | exact HB.out | apply below_alloc | apply pw_below_drewN | apply below_drew1 | refine below_set ?_ GE626.out) | exact HB.out))) : w.heap.size ≤ gb627)); have n4_ := Aside0.mk ((by rw [hg]; exact (below_size (by repeat (first | (with_reducible first | exact HB.out | apply below_alloc | apply pw_below_drewN | apply below_drew1 | refine below_set ?_ GE626.out) | exact HB.out))) : w.heap.size ≤ gb627)); have n5_ := Aside0.mk ((by rw [hg]; exact Nat.ne_of_lt (blk_lt (g := gb626) (o := .cells #[.string a0_0, .int .u8 a0_1, .bool a0_2, .int .i64 a0_3, .int .i64 a0_4, .int .i64 a0_5] 64 (0, 0)) (by (with_reducible repeat (first | refine blk_drewN ?_ _ | refine blk_drew ?_ | refine blk_alloc ?_ _)); exact BK626.out)) : gb626 ≠ gb627)); have n6_ := Aside0.mk ((by rw [hg]; exact Nat.ne_of_gt (blk_lt (g := gb626) (o := .cells #[.string a0_0, .int .u8 a0_1, .bool a0_2, .int .i64 a0_3, .int .i64 a0_4, .int .i64 a0_5] 64 (0, 0)) (by (with_reducible repeat (first | refine blk_drewN ?_ _ | refine blk_drew ?_ | refine blk_alloc ?_ _)); exact BK626.out)) : gb627 ≠ gb626)); clear BK626; clear HB; have BK626 := n0_; have HB := n1_; have BK627 := n2_; have GW627 := n3_; have GE627 := n4_; have NB626_627 := n5_; have NB627_626 := n6_; clear n0_ n1_ n2_ n3_ n4_ n5_ n6_; clear hb hbox hg) | (go_at_call 49; (with_reducible refine (quoinlaw10_alive.calls k  t628 _ A5.out).mono ?_); rintro e w11 ⟨rfl, hb⟩; have n0_ := Aside0.mk (blk_below (g := gb626) (o := .cells #[.string a0_0, .int .u8 a0_1, .bool a0_2, .int .i64 a0_3, .int .i64 a0_4, .int .i64 a0_5] 64 (0, 0)) (by (with_reducible repeat (first | refine blk_drewN ?_ _ | refine blk_drew ?_ | refine blk_alloc ?_ _)); exact BK626.out) hb); have n1_ := Aside0.mk (blk_below (g := gb627) (o := .cells #[.string a2_0, .int .u8 a2_1, .bool a2_2, .int .i64 a2_3, .int .i64 a2_4, .int .i64 a2_5] 64 (0, 0)) (by (with_reducible repeat (first | refine blk_drewN ?_ _ | refine blk_drew ?_ | refine blk_alloc ?_ _)); exact BK627.out) hb); have n2_ := Aside0.mk (below_step (by repeat (first | (with_reducible first | exact HB.out | apply below_alloc | apply pw_below_drewN | apply below_drew1 | refine below_set ?_ GE626.out | refine below_set ?_ GE627.out) | exact HB.out)) hb); clear BK626; clear BK627; clear HB; have BK626 := n0_; have BK627 := n1_; have HB := n2_; clear n0_ n1_ n2_; (try clear hb); (try clear hb2); (try clear hk); (try clear hi); have hnb12 := NB626_627.out; have hnc12 := NB627_626.out; have hcz13_0 : w11.cell? ⟨gb626, 0, none⟩ = some (.string a0_0) := (blk_cell BK626.out 0).trans rfl; have hcz13_1 : w11.cell? ⟨gb626, 1, none⟩ = some (.int .u8 a0_1) := (blk_cell BK626.out 1).trans rfl; have hcz13_2 : w11.cell? ⟨gb626, 2, none⟩ = some (.bool a0_2) := (blk_cell BK626.out 2).trans rfl; have hcz13_3 : w11.cell? ⟨gb626, 3, none⟩ = some (.int .i64 a0_3) := (blk_cell BK626.out 3).trans rfl; have hcz13_4 : w11.cell? ⟨gb626, 4, none⟩ = some (.int .i64 a0_4) := (blk_cell BK626.out 4).trans rfl; have hcz13_5 : w11.cell? ⟨gb626, 5, none⟩ = some (.int .i64 a0_5) := (blk_cell BK626.out 5).trans rfl; have hfz13_0 := blk_frozen BK626.out 0; have hfz13_1 := blk_frozen BK626.out 1; have hfz13_2 := blk_frozen BK626.out 2; have hfz13_3 := blk_frozen BK626.out 3; have hfz13_4 := blk_frozen BK626.out 4; have hfz13_5 := blk_frozen BK626.out 5) | (go_at_call 51; (with_reducible refine (sym_Write.calls k a0_0 a0_1 a0_2 a0_3 a0_4 a0_5 a1 t629 t632 _ A6.out).mono ?_); rintro e w14 ⟨v630, rfl, ho0, hb⟩; have n0_ := Aside0.mk (Kd.R_lower ho0 (below_size (by repeat (first | (with_reducible first | exact HB.out | apply below_alloc | apply pw_below_drewN | apply below_drew1 | refine below_set ?_ GE626.out | refine below_set ?_ GE627.out) | exact HB.out)))); have n1_ := Aside0.mk (blk_below (g := gb626) (o := .cells #[.string a0_0, .int .u8 a0_1, .bool a0_2, .int .i64 a0_3, .int .i64 a0_4, .int .i64 a0_5] 64 (0, 0)) (by (with_reducible repeat (first | refine blk_drewN ?_ _ | refine blk_drew ?_ | refine blk_alloc ?_ _)); exact BK626.out) hb); have n2_ := Aside0.mk (blk_below (g := gb627) (o := .cells #[.string a2_0, .int .u8 a2_1, .bool a2_2, .int .i64 a2_3, .int .i64 a2_4, .int .i64 a2_5] 64 (0, 0)) (by (with_reducible repeat (first | refine blk_drewN ?_ _ | refine blk_drew ?_ | refine blk_alloc ?_ _)); exact BK627.out) hb); have n3_ := Aside0.mk (below_step (by repeat (first | (with_reducible first | exact HB.out | apply below_alloc | apply pw_below_drewN | apply below_drew1 | refine below_set ?_ GE626.out | refine below_set ?_ GE627.out) | exact HB.out)) hb); clear BK626; clear BK627; clear HB; have HO631 := n0_; have BK626 := n1_; have BK627 := n2_; have HB := n3_; clear n0_ n1_ n2_ n3_; (try clear hb); (try clear hb2); (try clear hk); (try clear hi); (try clear ho0); have hcz15_0 : w14.cell? ⟨gb627, 0, none⟩ = some (.string a2_0) := (blk_cell BK627.out 0).trans rfl; have hcz15_1 : w14.cell? ⟨gb627, 1, none⟩ = some (.int .u8 a2_1) := (blk_cell BK627.out 1).trans rfl; have hcz15_2 : w14.cell? ⟨gb627, 2, none⟩ = some (.bool a2_2) := (blk_cell BK627.out 2).trans rfl; have hcz15_3 : w14.cell? ⟨gb627, 3, none⟩ = some (.int .i64 a2_3) := (blk_cell BK627.out 3).trans rfl; have hcz15_4 : w14.cell? ⟨gb627, 4, none⟩ = some (.int .i64 a2_4) := (blk_cell BK627.out 4).trans rfl; have hcz15_5 : w14.cell? ⟨gb627, 5, none⟩ = some (.int .i64 a2_5) := (blk_cell BK627.out 5).trans rfl; have hfz15_0 := blk_frozen BK627.out 0; have hfz15_1 := blk_frozen BK627.out 1; have hfz15_2 := blk_frozen BK627.out 2; have hfz15_3 := blk_frozen BK627.out 3; have hfz15_4 := blk_frozen BK627.out 4; have hfz15_5 := blk_frozen BK627.out 5) | (go_at_call 51; (with_reducible refine (sym_Write.calls k a2_0 a2_1 a2_2 a2_3 a2_4 a2_5 a3 t633 t636 _ A7.out).mono ?_); rintro e w16 ⟨v634, rfl, ho0, hb⟩; have n0_ := Aside0.mk (Kd.R_elder' (by (with_reducible repeat (first | apply Kd.R_alloc | apply Kd.R_drewN | apply Kd.R_drew)); exact HO631.out) (Kd.R_base ho0) hb); have n1_ := Aside0.mk (Kd.R_lower (Kd.R_new' ho0 (Kd.R_lt (by (with_reducible repeat (first | apply Kd.R_alloc | apply Kd.R_drewN | apply Kd.R_drew)); exact HO631.out))) (below_size (by repeat (first | (with_reducible first | exact HB.out | apply below_alloc | apply pw_below_drewN | apply below_drew1 | refine below_set ?_ GE626.out | refine below_set ?_ GE627.out) | exact HB.out)))); have n2_ := Aside0.mk (blk_below (g := gb626) (o := .cells #[.string a0_0, .int .u8 a0_1, .bool a0_2, .int .i64 a0_3, .int .i64 a0_4, .int .i64 a0_5] 64 (0, 0)) (by (with_reducible repeat (first | refine blk_drewN ?_ _ | refine blk_drew ?_ | refine blk_alloc ?_ _)); exact BK626.out) hb); have n3_ := Aside0.mk (blk_below (g := gb627) (o := .cells #[.string a2_0, .int .u8 a2_1, .bool a2_2, .int .i64 a2_3, .int .i64 a2_4, .int .i64 a2_5] 64 (0, 0)) (by (with_reducible repeat (first | refine blk_drewN ?_ _ | refine blk_drew ?_ | refine blk_alloc ?_ _)); exact BK627.out) hb); have n4_ := Aside0.mk (below_step (by repeat (first | (with_reducible first | exact HB.out | apply below_alloc | apply pw_below_drewN | apply below_drew1 | refine below_set ?_ GE626.out | refine below_set ?_ GE627.out) | exact HB.out)) hb); clear HO631; clear BK626; clear BK627; clear HB; have HO631 := n0_; have HO635 := n1_; have BK626 := n2_; have BK627 := n3_; have HB := n4_; clear n0_ n1_ n2_ n3_ n4_; (try clear hb); (try clear hb2); (try clear hk); (try clear hi); (try clear ho0))))
 (try simp only [Act.put, List.setIfInBounds_toArray, List.set_cons_zero, List.set_cons_succ])
 go_cut [49] (fun v49 wc => ∃ (kq : Nat) (x49_7 : Bool), v49 = .bool x49_7 ∧ Aside0 (quoinlaw10_SymUnlike.j0 kq a1 a3 t628 t629 t632 t633 t636 x49_7 a0_0 a0_1 a0_2 a0_3 a0_4 a0_5 a2_0 a2_1 a2_2 a2_3 a2_4 a2_5 = some r) ∧ Aside0 (kq ≤ k) ∧ Aside0 (Kd.R (Kd.int .u8) 5 wc w.heap.size (fun k_ => some k_ ≠ (v634 : Value).ownBlock) v630 t629) ∧ Aside0 (Kd.R (Kd.int .u8) 5 wc w.heap.size (fun k_ => some k_ ≠ (v630 : Value).ownBlock) v634 t633) ∧ Aside0 (wc.heap[gb626]? = some (.cells #[.string a0_0, .int .u8 a0_1, .bool a0_2, .int .i64 a0_3, .int .i64 a0_4, .int .i64 a0_5] 64 (0, 0))) ∧ Aside0 (wc.heap[gb627]? = some (.cells #[.string a2_0, .int .u8 a2_1, .bool a2_2, .int .i64 a2_3, .int .i64 a2_4, .int .i64 a2_5] 64 (0, 0))) ∧ Aside0 (Below w.heap.size w wc))
 case first =>
  have H := HC8.out
  clear HC8
  replace H := Option.bind_eq_some_iff.mp H
  obtain ⟨t637, A170, H⟩ := H
  replace H : (if t637 = 0 then (if a1 ≥ 0 then (if t632 = 0 then (if a1 < 65536 then (quoinlaw10_SymUnlike.j0 k a1 a3 t628 t629 t632 t633 t636 false a0_0 a0_1 a0_2 a0_3 a0_4 a0_5 a2_0 a2_1 a2_2 a2_3 a2_4 a2_5) else (none)) else (if a1 < 65536 then (none) else (quoinlaw10_SymUnlike.j0 k a1 a3 t628 t629 t632 t633 t636 ((t629.length : Int) != 0) a0_0 a0_1 a0_2 a0_3 a0_4 a0_5 a2_0 a2_1 a2_2 a2_3 a2_4 a2_5))) else (if t632 = 0 then (none) else (quoinlaw10_SymUnlike.j0 k a1 a3 t628 t629 t632 t633 t636 ((t629.length : Int) != 0) a0_0 a0_1 a0_2 a0_3 a0_4 a0_5 a2_0 a2_1 a2_2 a2_3 a2_4 a2_5))) else (if t632 = 0 then (none) else (quoinlaw10_SymUnlike.j0 k a1 a3 t628 t629 t632 t633 t636 ((t629.length : Int) != 0) a0_0 a0_1 a0_2 a0_3 a0_4 a0_5 a2_0 a2_1 a2_2 a2_3 a2_4 a2_5))) = some r := H
  have A17 := Aside0.mk A170
  clear A170
  by_cases c18 : t637 = 0
  ·
   rw [if_pos c18] at H
   have c18b0 : (t637 == 0) = true := beq_iff_eq.mpr c18
   have c18b1 : (t637 != 0) = false := bne_eq_false_iff_eq.mpr c18
   clear c18
   (first | rw [c18b0] | (simp only [i64_w, i32_w]; rw [c18b0]) | skip)
   by_cases c19 : a1 ≥ 0
   ·
    rw [if_pos c19] at H
    have c19b0 : decide (0 ≤ a1) = true := decide_eq_true c19
    clear c19
    by_cases c20 : t632 = 0
    ·
     rw [if_pos c20] at H
     have c20b0 : (t632 == 0) = true := beq_iff_eq.mpr c20
     have c20b1 : (t632 != 0) = false := bne_eq_false_iff_eq.mpr c20
     clear c20
     by_cases c21 : a1 < 65536
     ·
      rw [if_pos c21] at H
      have c21b0 : decide (a1 < 65536) = true := decide_eq_true c21
      clear c21
      have H' := Aside0.mk H
      clear H
      have hnb22 := NB626_627.out
      have hnc22 := NB627_626.out
      have hcz23_0 : w16.cell? ⟨gb626, 0, none⟩ = some (.string a0_0) := (blk_cell BK626.out 0).trans rfl
      have hcz23_1 : w16.cell? ⟨gb626, 1, none⟩ = some (.int .u8 a0_1) := (blk_cell BK626.out 1).trans rfl
      have hcz23_2 : w16.cell? ⟨gb626, 2, none⟩ = some (.bool a0_2) := (blk_cell BK626.out 2).trans rfl
      have hcz23_3 : w16.cell? ⟨gb626, 3, none⟩ = some (.int .i64 a0_3) := (blk_cell BK626.out 3).trans rfl
      have hcz23_4 : w16.cell? ⟨gb626, 4, none⟩ = some (.int .i64 a0_4) := (blk_cell BK626.out 4).trans rfl
      have hcz23_5 : w16.cell? ⟨gb626, 5, none⟩ = some (.int .i64 a0_5) := (blk_cell BK626.out 5).trans rfl
      have hfz23_0 := blk_frozen BK626.out 0
      have hfz23_1 := blk_frozen BK626.out 1
      have hfz23_2 := blk_frozen BK626.out 2
      have hfz23_3 := blk_frozen BK626.out 3
      have hfz23_4 := blk_frozen BK626.out 4
      have hfz23_5 := blk_frozen BK626.out 5
      go_wp2_with (first | (go_at_call 50; (with_reducible refine (sym_Check.calls k a0_0 a0_1 a0_2 a0_3 a0_4 a0_5 16 t637 _ A17.out).mono ?_); rintro e w24 ⟨rfl, hb⟩; have n0_ := Aside0.mk (Kd.R_below (by (with_reducible repeat (first | apply Kd.R_alloc | apply Kd.R_drewN | apply Kd.R_drew)); exact HO631.out) hb); have n1_ := Aside0.mk (Kd.R_below (by (with_reducible repeat (first | apply Kd.R_alloc | apply Kd.R_drewN | apply Kd.R_drew)); exact HO635.out) hb); have n2_ := Aside0.mk (blk_below (g := gb626) (o := .cells #[.string a0_0, .int .u8 a0_1, .bool a0_2, .int .i64 a0_3, .int .i64 a0_4, .int .i64 a0_5] 64 (0, 0)) (by (with_reducible repeat (first | refine blk_drewN ?_ _ | refine blk_drew ?_ | refine blk_alloc ?_ _)); exact BK626.out) hb); have n3_ := Aside0.mk (blk_below (g := gb627) (o := .cells #[.string a2_0, .int .u8 a2_1, .bool a2_2, .int .i64 a2_3, .int .i64 a2_4, .int .i64 a2_5] 64 (0, 0)) (by (with_reducible repeat (first | refine blk_drewN ?_ _ | refine blk_drew ?_ | refine blk_alloc ?_ _)); exact BK627.out) hb); have n4_ := Aside0.mk (below_step (by repeat (first | (with_reducible first | exact HB.out | apply below_alloc | apply pw_below_drewN | apply below_drew1 | refine below_set ?_ GE626.out | refine below_set ?_ GE627.out) | exact HB.out)) hb); clear HO631; clear HO635; clear BK626; clear BK627; clear HB; have HO631 := n0_; have HO635 := n1_; have BK626 := n2_; have BK627 := n3_; have HB := n4_; clear n0_ n1_ n2_ n3_ n4_; (try clear hb); (try clear hb2); (try clear hk); (try clear hi)))
      repeat (go_quiet (first | (go_at_call 50; (with_reducible refine (sym_Check.calls k a0_0 a0_1 a0_2 a0_3 a0_4 a0_5 16 t637 _ A17.out).mono ?_); rintro e w24 ⟨rfl, hb⟩; have n0_ := Aside0.mk (Kd.R_below (by (with_reducible repeat (first | apply Kd.R_alloc | apply Kd.R_drewN | apply Kd.R_drew)); exact HO631.out) hb); have n1_ := Aside0.mk (Kd.R_below (by (with_reducible repeat (first | apply Kd.R_alloc | apply Kd.R_drewN | apply Kd.R_drew)); exact HO635.out) hb); have n2_ := Aside0.mk (blk_below (g := gb626) (o := .cells #[.string a0_0, .int .u8 a0_1, .bool a0_2, .int .i64 a0_3, .int .i64 a0_4, .int .i64 a0_5] 64 (0, 0)) (by (with_reducible repeat (first | refine blk_drewN ?_ _ | refine blk_drew ?_ | refine blk_alloc ?_ _)); exact BK626.out) hb); have n3_ := Aside0.mk (blk_below (g := gb627) (o := .cells #[.string a2_0, .int .u8 a2_1, .bool a2_2, .int .i64 a2_3, .int .i64 a2_4, .int .i64 a2_5] 64 (0, 0)) (by (with_reducible repeat (first | refine blk_drewN ?_ _ | refine blk_drew ?_ | refine blk_alloc ?_ _)); exact BK627.out) hb); have n4_ := Aside0.mk (below_step (by repeat (first | (with_reducible first | exact HB.out | apply below_alloc | apply pw_below_drewN | apply below_drew1 | refine below_set ?_ GE626.out | refine below_set ?_ GE627.out) | exact HB.out)) hb); clear HO631; clear HO635; clear BK626; clear BK627; clear HB; have HO631 := n0_; have HO635 := n1_; have BK626 := n2_; have BK627 := n3_; have HB := n4_; clear n0_ n1_ n2_ n3_ n4_; (try clear hb); (try clear hb2); (try clear hk); (try clear hi))); try go_wp2_with (first | (go_at_call 50; (with_reducible refine (sym_Check.calls k a0_0 a0_1 a0_2 a0_3 a0_4 a0_5 16 t637 _ A17.out).mono ?_); rintro e w24 ⟨rfl, hb⟩; have n0_ := Aside0.mk (Kd.R_below (by (with_reducible repeat (first | apply Kd.R_alloc | apply Kd.R_drewN | apply Kd.R_drew)); exact HO631.out) hb); have n1_ := Aside0.mk (Kd.R_below (by (with_reducible repeat (first | apply Kd.R_alloc | apply Kd.R_drewN | apply Kd.R_drew)); exact HO635.out) hb); have n2_ := Aside0.mk (blk_below (g := gb626) (o := .cells #[.string a0_0, .int .u8 a0_1, .bool a0_2, .int .i64 a0_3, .int .i64 a0_4, .int .i64 a0_5] 64 (0, 0)) (by (with_reducible repeat (first | refine blk_drewN ?_ _ | refine blk_drew ?_ | refine blk_alloc ?_ _)); exact BK626.out) hb); have n3_ := Aside0.mk (blk_below (g := gb627) (o := .cells #[.string a2_0, .int .u8 a2_1, .bool a2_2, .int .i64 a2_3, .int .i64 a2_4, .int .i64 a2_5] 64 (0, 0)) (by (with_reducible repeat (first | refine blk_drewN ?_ _ | refine blk_drew ?_ | refine blk_alloc ?_ _)); exact BK627.out) hb); have n4_ := Aside0.mk (below_step (by repeat (first | (with_reducible first | exact HB.out | apply below_alloc | apply pw_below_drewN | apply below_drew1 | refine below_set ?_ GE626.out | refine below_set ?_ GE627.out) | exact HB.out)) hb); clear HO631; clear HO635; clear BK626; clear BK627; clear HB; have HO631 := n0_; have HO635 := n1_; have BK626 := n2_; have BK627 := n3_; have HB := n4_; clear n0_ n1_ n2_ n3_ n4_; (try clear hb); (try clear hb2); (try clear hk); (try clear hi))))
      go_meet
      case rel => exact ⟨_, (false), (by first | rfl | (simp; done) | (simp [*]; done)), H', ⟨by first | omega | exact Nat.le_refl _⟩, ⟨by (with_reducible repeat (first | apply Kd.R_alloc | apply Kd.R_drewN | apply Kd.R_drew)); exact Kd.R_mono HO631.out (fun _ hk => hk.2)⟩, ⟨by (with_reducible repeat (first | apply Kd.R_alloc | apply Kd.R_drewN | apply Kd.R_drew)); exact Kd.R_mono HO635.out (fun _ hk => hk.2)⟩, ⟨by (with_reducible repeat (first | refine blk_drewN ?_ _ | refine blk_drew ?_ | refine blk_alloc ?_ _)); exact BK626.out⟩, ⟨by (with_reducible repeat (first | refine blk_drewN ?_ _ | refine blk_drew ?_ | refine blk_alloc ?_ _)); exact BK627.out⟩, ⟨by repeat (first | (with_reducible first | exact HB.out | apply below_alloc | apply pw_below_drewN | apply below_drew1 | refine below_set ?_ GE626.out | refine below_set ?_ GE627.out) | exact HB.out)⟩⟩
     ·
      rw [if_neg c21] at H
      exact absurd H (by simp)
    ·
     rw [if_neg c20] at H
     have c20b0 : (t632 == 0) = false := beq_eq_false_iff_ne.mpr c20
     have c20b1 : (t632 != 0) = true := bne_iff_ne.mpr c20
     by_cases c25 : a1 < 65536
     ·
      rw [if_pos c25] at H
      exact absurd H (by simp)
     ·
      rw [if_neg c25] at H
      have c25b0 : decide (a1 < 65536) = false := decide_eq_false c25
      clear c25
      have H' := Aside0.mk H
      clear H
      have hnb26 := NB626_627.out
      have hnc26 := NB627_626.out
      have hcz27_0 : w16.cell? ⟨gb626, 0, none⟩ = some (.string a0_0) := (blk_cell BK626.out 0).trans rfl
      have hcz27_1 : w16.cell? ⟨gb626, 1, none⟩ = some (.int .u8 a0_1) := (blk_cell BK626.out 1).trans rfl
      have hcz27_2 : w16.cell? ⟨gb626, 2, none⟩ = some (.bool a0_2) := (blk_cell BK626.out 2).trans rfl
      have hcz27_3 : w16.cell? ⟨gb626, 3, none⟩ = some (.int .i64 a0_3) := (blk_cell BK626.out 3).trans rfl
      have hcz27_4 : w16.cell? ⟨gb626, 4, none⟩ = some (.int .i64 a0_4) := (blk_cell BK626.out 4).trans rfl
      have hcz27_5 : w16.cell? ⟨gb626, 5, none⟩ = some (.int .i64 a0_5) := (blk_cell BK626.out 5).trans rfl
      have hfz27_0 := blk_frozen BK626.out 0
      have hfz27_1 := blk_frozen BK626.out 1
      have hfz27_2 := blk_frozen BK626.out 2
      have hfz27_3 := blk_frozen BK626.out 3
      have hfz27_4 := blk_frozen BK626.out 4
      have hfz27_5 := blk_frozen BK626.out 5
      go_wp2_with (first | (go_at_call 50; (with_reducible refine (sym_Check.calls k a0_0 a0_1 a0_2 a0_3 a0_4 a0_5 16 t637 _ A17.out).mono ?_); rintro e w28 ⟨rfl, hb⟩; have n0_ := Aside0.mk (Kd.R_below (by (with_reducible repeat (first | apply Kd.R_alloc | apply Kd.R_drewN | apply Kd.R_drew)); exact HO631.out) hb); have n1_ := Aside0.mk (Kd.R_below (by (with_reducible repeat (first | apply Kd.R_alloc | apply Kd.R_drewN | apply Kd.R_drew)); exact HO635.out) hb); have n2_ := Aside0.mk (blk_below (g := gb626) (o := .cells #[.string a0_0, .int .u8 a0_1, .bool a0_2, .int .i64 a0_3, .int .i64 a0_4, .int .i64 a0_5] 64 (0, 0)) (by (with_reducible repeat (first | refine blk_drewN ?_ _ | refine blk_drew ?_ | refine blk_alloc ?_ _)); exact BK626.out) hb); have n3_ := Aside0.mk (blk_below (g := gb627) (o := .cells #[.string a2_0, .int .u8 a2_1, .bool a2_2, .int .i64 a2_3, .int .i64 a2_4, .int .i64 a2_5] 64 (0, 0)) (by (with_reducible repeat (first | refine blk_drewN ?_ _ | refine blk_drew ?_ | refine blk_alloc ?_ _)); exact BK627.out) hb); have n4_ := Aside0.mk (below_step (by repeat (first | (with_reducible first | exact HB.out | apply below_alloc | apply pw_below_drewN | apply below_drew1 | refine below_set ?_ GE626.out | refine below_set ?_ GE627.out) | exact HB.out)) hb); clear HO631; clear HO635; clear BK626; clear BK627; clear HB; have HO631 := n0_; have HO635 := n1_; have BK626 := n2_; have BK627 := n3_; have HB := n4_; clear n0_ n1_ n2_ n3_ n4_; (try clear hb); (try clear hb2); (try clear hk); (try clear hi); obtain ⟨Ao29, co29, eo29⟩ := Kd.R_slice HO631.out; subst eo29))
      repeat (go_quiet (first | (go_at_call 50; (with_reducible refine (sym_Check.calls k a0_0 a0_1 a0_2 a0_3 a0_4 a0_5 16 t637 _ A17.out).mono ?_); rintro e w28 ⟨rfl, hb⟩; have n0_ := Aside0.mk (Kd.R_below (by (with_reducible repeat (first | apply Kd.R_alloc | apply Kd.R_drewN | apply Kd.R_drew)); exact HO631.out) hb); have n1_ := Aside0.mk (Kd.R_below (by (with_reducible repeat (first | apply Kd.R_alloc | apply Kd.R_drewN | apply Kd.R_drew)); exact HO635.out) hb); have n2_ := Aside0.mk (blk_below (g := gb626) (o := .cells #[.string a0_0, .int .u8 a0_1, .bool a0_2, .int .i64 a0_3, .int .i64 a0_4, .int .i64 a0_5] 64 (0, 0)) (by (with_reducible repeat (first | refine blk_drewN ?_ _ | refine blk_drew ?_ | refine blk_alloc ?_ _)); exact BK626.out) hb); have n3_ := Aside0.mk (blk_below (g := gb627) (o := .cells #[.string a2_0, .int .u8 a2_1, .bool a2_2, .int .i64 a2_3, .int .i64 a2_4, .int .i64 a2_5] 64 (0, 0)) (by (with_reducible repeat (first | refine blk_drewN ?_ _ | refine blk_drew ?_ | refine blk_alloc ?_ _)); exact BK627.out) hb); have n4_ := Aside0.mk (below_step (by repeat (first | (with_reducible first | exact HB.out | apply below_alloc | apply pw_below_drewN | apply below_drew1 | refine below_set ?_ GE626.out | refine below_set ?_ GE627.out) | exact HB.out)) hb); clear HO631; clear HO635; clear BK626; clear BK627; clear HB; have HO631 := n0_; have HO635 := n1_; have BK626 := n2_; have BK627 := n3_; have HB := n4_; clear n0_ n1_ n2_ n3_ n4_; (try clear hb); (try clear hb2); (try clear hk); (try clear hi); obtain ⟨Ao29, co29, eo29⟩ := Kd.R_slice HO631.out; subst eo29)); try go_wp2_with (first | (go_at_call 50; (with_reducible refine (sym_Check.calls k a0_0 a0_1 a0_2 a0_3 a0_4 a0_5 16 t637 _ A17.out).mono ?_); rintro e w28 ⟨rfl, hb⟩; have n0_ := Aside0.mk (Kd.R_below (by (with_reducible repeat (first | apply Kd.R_alloc | apply Kd.R_drewN | apply Kd.R_drew)); exact HO631.out) hb); have n1_ := Aside0.mk (Kd.R_below (by (with_reducible repeat (first | apply Kd.R_alloc | apply Kd.R_drewN | apply Kd.R_drew)); exact HO635.out) hb); have n2_ := Aside0.mk (blk_below (g := gb626) (o := .cells #[.string a0_0, .int .u8 a0_1, .bool a0_2, .int .i64 a0_3, .int .i64 a0_4, .int .i64 a0_5] 64 (0, 0)) (by (with_reducible repeat (first | refine blk_drewN ?_ _ | refine blk_drew ?_ | refine blk_alloc ?_ _)); exact BK626.out) hb); have n3_ := Aside0.mk (blk_below (g := gb627) (o := .cells #[.string a2_0, .int .u8 a2_1, .bool a2_2, .int .i64 a2_3, .int .i64 a2_4, .int .i64 a2_5] 64 (0, 0)) (by (with_reducible repeat (first | refine blk_drewN ?_ _ | refine blk_drew ?_ | refine blk_alloc ?_ _)); exact BK627.out) hb); have n4_ := Aside0.mk (below_step (by repeat (first | (with_reducible first | exact HB.out | apply below_alloc | apply pw_below_drewN | apply below_drew1 | refine below_set ?_ GE626.out | refine below_set ?_ GE627.out) | exact HB.out)) hb); clear HO631; clear HO635; clear BK626; clear BK627; clear HB; have HO631 := n0_; have HO635 := n1_; have BK626 := n2_; have BK627 := n3_; have HB := n4_; clear n0_ n1_ n2_ n3_ n4_; (try clear hb); (try clear hb2); (try clear hk); (try clear hi); obtain ⟨Ao29, co29, eo29⟩ := Kd.R_slice HO631.out; subst eo29)))
      go_meet
      case rel => exact ⟨_, (((t629.length : Int) != 0)), (by first | rfl | (simp; done) | (simp [*]; done)), H', ⟨by first | omega | exact Nat.le_refl _⟩, ⟨by (with_reducible repeat (first | apply Kd.R_alloc | apply Kd.R_drewN | apply Kd.R_drew)); exact Kd.R_mono HO631.out (fun _ hk => hk.2)⟩, ⟨by (with_reducible repeat (first | apply Kd.R_alloc | apply Kd.R_drewN | apply Kd.R_drew)); exact Kd.R_mono HO635.out (fun _ hk => hk.2)⟩, ⟨by (with_reducible repeat (first | refine blk_drewN ?_ _ | refine blk_drew ?_ | refine blk_alloc ?_ _)); exact BK626.out⟩, ⟨by (with_reducible repeat (first | refine blk_drewN ?_ _ | refine blk_drew ?_ | refine blk_alloc ?_ _)); exact BK627.out⟩, ⟨by repeat (first | (with_reducible first | exact HB.out | apply below_alloc | apply pw_below_drewN | apply below_drew1 | refine below_set ?_ GE626.out | refine below_set ?_ GE627.out) | exact HB.out)⟩⟩
   ·
    rw [if_neg c19] at H
    have c19b0 : decide (0 ≤ a1) = false := decide_eq_false c19
    clear c19
    by_cases c30 : t632 = 0
    ·
     rw [if_pos c30] at H
     exact absurd H (by simp)
    ·
     rw [if_neg c30] at H
     have c30b0 : (t632 == 0) = false := beq_eq_false_iff_ne.mpr c30
     have c30b1 : (t632 != 0) = true := bne_iff_ne.mpr c30
     have H' := Aside0.mk H
     clear H
     have hnb31 := NB626_627.out
     have hnc31 := NB627_626.out
     have hcz32_0 : w16.cell? ⟨gb626, 0, none⟩ = some (.string a0_0) := (blk_cell BK626.out 0).trans rfl
     have hcz32_1 : w16.cell? ⟨gb626, 1, none⟩ = some (.int .u8 a0_1) := (blk_cell BK626.out 1).trans rfl
     have hcz32_2 : w16.cell? ⟨gb626, 2, none⟩ = some (.bool a0_2) := (blk_cell BK626.out 2).trans rfl
     have hcz32_3 : w16.cell? ⟨gb626, 3, none⟩ = some (.int .i64 a0_3) := (blk_cell BK626.out 3).trans rfl
     have hcz32_4 : w16.cell? ⟨gb626, 4, none⟩ = some (.int .i64 a0_4) := (blk_cell BK626.out 4).trans rfl
     have hcz32_5 : w16.cell? ⟨gb626, 5, none⟩ = some (.int .i64 a0_5) := (blk_cell BK626.out 5).trans rfl
     have hfz32_0 := blk_frozen BK626.out 0
     have hfz32_1 := blk_frozen BK626.out 1
     have hfz32_2 := blk_frozen BK626.out 2
     have hfz32_3 := blk_frozen BK626.out 3
     have hfz32_4 := blk_frozen BK626.out 4
     have hfz32_5 := blk_frozen BK626.out 5
     go_wp2_with (first | (go_at_call 50; (with_reducible refine (sym_Check.calls k a0_0 a0_1 a0_2 a0_3 a0_4 a0_5 16 t637 _ A17.out).mono ?_); rintro e w33 ⟨rfl, hb⟩; have n0_ := Aside0.mk (Kd.R_below (by (with_reducible repeat (first | apply Kd.R_alloc | apply Kd.R_drewN | apply Kd.R_drew)); exact HO631.out) hb); have n1_ := Aside0.mk (Kd.R_below (by (with_reducible repeat (first | apply Kd.R_alloc | apply Kd.R_drewN | apply Kd.R_drew)); exact HO635.out) hb); have n2_ := Aside0.mk (blk_below (g := gb626) (o := .cells #[.string a0_0, .int .u8 a0_1, .bool a0_2, .int .i64 a0_3, .int .i64 a0_4, .int .i64 a0_5] 64 (0, 0)) (by (with_reducible repeat (first | refine blk_drewN ?_ _ | refine blk_drew ?_ | refine blk_alloc ?_ _)); exact BK626.out) hb); have n3_ := Aside0.mk (blk_below (g := gb627) (o := .cells #[.string a2_0, .int .u8 a2_1, .bool a2_2, .int .i64 a2_3, .int .i64 a2_4, .int .i64 a2_5] 64 (0, 0)) (by (with_reducible repeat (first | refine blk_drewN ?_ _ | refine blk_drew ?_ | refine blk_alloc ?_ _)); exact BK627.out) hb); have n4_ := Aside0.mk (below_step (by repeat (first | (with_reducible first | exact HB.out | apply below_alloc | apply pw_below_drewN | apply below_drew1 | refine below_set ?_ GE626.out | refine below_set ?_ GE627.out) | exact HB.out)) hb); clear HO631; clear HO635; clear BK626; clear BK627; clear HB; have HO631 := n0_; have HO635 := n1_; have BK626 := n2_; have BK627 := n3_; have HB := n4_; clear n0_ n1_ n2_ n3_ n4_; (try clear hb); (try clear hb2); (try clear hk); (try clear hi); obtain ⟨Ao34, co34, eo34⟩ := Kd.R_slice HO631.out; subst eo34))
     repeat (go_quiet (first | (go_at_call 50; (with_reducible refine (sym_Check.calls k a0_0 a0_1 a0_2 a0_3 a0_4 a0_5 16 t637 _ A17.out).mono ?_); rintro e w33 ⟨rfl, hb⟩; have n0_ := Aside0.mk (Kd.R_below (by (with_reducible repeat (first | apply Kd.R_alloc | apply Kd.R_drewN | apply Kd.R_drew)); exact HO631.out) hb); have n1_ := Aside0.mk (Kd.R_below (by (with_reducible repeat (first | apply Kd.R_alloc | apply Kd.R_drewN | apply Kd.R_drew)); exact HO635.out) hb); have n2_ := Aside0.mk (blk_below (g := gb626) (o := .cells #[.string a0_0, .int .u8 a0_1, .bool a0_2, .int .i64 a0_3, .int .i64 a0_4, .int .i64 a0_5] 64 (0, 0)) (by (with_reducible repeat (first | refine blk_drewN ?_ _ | refine blk_drew ?_ | refine blk_alloc ?_ _)); exact BK626.out) hb); have n3_ := Aside0.mk (blk_below (g := gb627) (o := .cells #[.string a2_0, .int .u8 a2_1, .bool a2_2, .int .i64 a2_3, .int .i64 a2_4, .int .i64 a2_5] 64 (0, 0)) (by (with_reducible repeat (first | refine blk_drewN ?_ _ | refine blk_drew ?_ | refine blk_alloc ?_ _)); exact BK627.out) hb); have n4_ := Aside0.mk (below_step (by repeat (first | (with_reducible first | exact HB.out | apply below_alloc | apply pw_below_drewN | apply below_drew1 | refine below_set ?_ GE626.out | refine below_set ?_ GE627.out) | exact HB.out)) hb); clear HO631; clear HO635; clear BK626; clear BK627; clear HB; have HO631 := n0_; have HO635 := n1_; have BK626 := n2_; have BK627 := n3_; have HB := n4_; clear n0_ n1_ n2_ n3_ n4_; (try clear hb); (try clear hb2); (try clear hk); (try clear hi); obtain ⟨Ao34, co34, eo34⟩ := Kd.R_slice HO631.out; subst eo34)); try go_wp2_with (first | (go_at_call 50; (with_reducible refine (sym_Check.calls k a0_0 a0_1 a0_2 a0_3 a0_4 a0_5 16 t637 _ A17.out).mono ?_); rintro e w33 ⟨rfl, hb⟩; have n0_ := Aside0.mk (Kd.R_below (by (with_reducible repeat (first | apply Kd.R_alloc | apply Kd.R_drewN | apply Kd.R_drew)); exact HO631.out) hb); have n1_ := Aside0.mk (Kd.R_below (by (with_reducible repeat (first | apply Kd.R_alloc | apply Kd.R_drewN | apply Kd.R_drew)); exact HO635.out) hb); have n2_ := Aside0.mk (blk_below (g := gb626) (o := .cells #[.string a0_0, .int .u8 a0_1, .bool a0_2, .int .i64 a0_3, .int .i64 a0_4, .int .i64 a0_5] 64 (0, 0)) (by (with_reducible repeat (first | refine blk_drewN ?_ _ | refine blk_drew ?_ | refine blk_alloc ?_ _)); exact BK626.out) hb); have n3_ := Aside0.mk (blk_below (g := gb627) (o := .cells #[.string a2_0, .int .u8 a2_1, .bool a2_2, .int .i64 a2_3, .int .i64 a2_4, .int .i64 a2_5] 64 (0, 0)) (by (with_reducible repeat (first | refine blk_drewN ?_ _ | refine blk_drew ?_ | refine blk_alloc ?_ _)); exact BK627.out) hb); have n4_ := Aside0.mk (below_step (by repeat (first | (with_reducible first | exact HB.out | apply below_alloc | apply pw_below_drewN | apply below_drew1 | refine below_set ?_ GE626.out | refine below_set ?_ GE627.out) | exact HB.out)) hb); clear HO631; clear HO635; clear BK626; clear BK627; clear HB; have HO631 := n0_; have HO635 := n1_; have BK626 := n2_; have BK627 := n3_; have HB := n4_; clear n0_ n1_ n2_ n3_ n4_; (try clear hb); (try clear hb2); (try clear hk); (try clear hi); obtain ⟨Ao34, co34, eo34⟩ := Kd.R_slice HO631.out; subst eo34)))
     go_meet
     case rel => exact ⟨_, (((t629.length : Int) != 0)), (by first | rfl | (simp; done) | (simp [*]; done)), H', ⟨by first | omega | exact Nat.le_refl _⟩, ⟨by (with_reducible repeat (first | apply Kd.R_alloc | apply Kd.R_drewN | apply Kd.R_drew)); exact Kd.R_mono HO631.out (fun _ hk => hk.2)⟩, ⟨by (with_reducible repeat (first | apply Kd.R_alloc | apply Kd.R_drewN | apply Kd.R_drew)); exact Kd.R_mono HO635.out (fun _ hk => hk.2)⟩, ⟨by (with_reducible repeat (first | refine blk_drewN ?_ _ | refine blk_drew ?_ | refine blk_alloc ?_ _)); exact BK626.out⟩, ⟨by (with_reducible repeat (first | refine blk_drewN ?_ _ | refine blk_drew ?_ | refine blk_alloc ?_ _)); exact BK627.out⟩, ⟨by repeat (first | (with_reducible first | exact HB.out | apply below_alloc | apply pw_below_drewN | apply below_drew1 | refine below_set ?_ GE626.out | refine below_set ?_ GE627.out) | exact HB.out)⟩⟩
  ·
   rw [if_neg c18] at H
   have c18b0 : (t637 == 0) = false := beq_eq_false_iff_ne.mpr c18
   have c18b1 : (t637 != 0) = true := bne_iff_ne.mpr c18
   (first | rw [c18b0] | (simp only [i64_w, i32_w]; rw [c18b0]) | skip)
   by_cases c35 : t632 = 0
   ·
    rw [if_pos c35] at H
    exact absurd H (by simp)
   ·
    rw [if_neg c35] at H
    have c35b0 : (t632 == 0) = false := beq_eq_false_iff_ne.mpr c35
    have c35b1 : (t632 != 0) = true := bne_iff_ne.mpr c35
    have H' := Aside0.mk H
    clear H
    have hnb36 := NB626_627.out
    have hnc36 := NB627_626.out
    have hcz37_0 : w16.cell? ⟨gb626, 0, none⟩ = some (.string a0_0) := (blk_cell BK626.out 0).trans rfl
    have hcz37_1 : w16.cell? ⟨gb626, 1, none⟩ = some (.int .u8 a0_1) := (blk_cell BK626.out 1).trans rfl
    have hcz37_2 : w16.cell? ⟨gb626, 2, none⟩ = some (.bool a0_2) := (blk_cell BK626.out 2).trans rfl
    have hcz37_3 : w16.cell? ⟨gb626, 3, none⟩ = some (.int .i64 a0_3) := (blk_cell BK626.out 3).trans rfl
    have hcz37_4 : w16.cell? ⟨gb626, 4, none⟩ = some (.int .i64 a0_4) := (blk_cell BK626.out 4).trans rfl
    have hcz37_5 : w16.cell? ⟨gb626, 5, none⟩ = some (.int .i64 a0_5) := (blk_cell BK626.out 5).trans rfl
    have hfz37_0 := blk_frozen BK626.out 0
    have hfz37_1 := blk_frozen BK626.out 1
    have hfz37_2 := blk_frozen BK626.out 2
    have hfz37_3 := blk_frozen BK626.out 3
    have hfz37_4 := blk_frozen BK626.out 4
    have hfz37_5 := blk_frozen BK626.out 5
    go_wp2_with (first | (go_at_call 50; (with_reducible refine (sym_Check.calls k a0_0 a0_1 a0_2 a0_3 a0_4 a0_5 16 t637 _ A17.out).mono ?_); rintro e w38 ⟨rfl, hb⟩; have n0_ := Aside0.mk (Kd.R_below (by (with_reducible repeat (first | apply Kd.R_alloc | apply Kd.R_drewN | apply Kd.R_drew)); exact HO631.out) hb); have n1_ := Aside0.mk (Kd.R_below (by (with_reducible repeat (first | apply Kd.R_alloc | apply Kd.R_drewN | apply Kd.R_drew)); exact HO635.out) hb); have n2_ := Aside0.mk (blk_below (g := gb626) (o := .cells #[.string a0_0, .int .u8 a0_1, .bool a0_2, .int .i64 a0_3, .int .i64 a0_4, .int .i64 a0_5] 64 (0, 0)) (by (with_reducible repeat (first | refine blk_drewN ?_ _ | refine blk_drew ?_ | refine blk_alloc ?_ _)); exact BK626.out) hb); have n3_ := Aside0.mk (blk_below (g := gb627) (o := .cells #[.string a2_0, .int .u8 a2_1, .bool a2_2, .int .i64 a2_3, .int .i64 a2_4, .int .i64 a2_5] 64 (0, 0)) (by (with_reducible repeat (first | refine blk_drewN ?_ _ | refine blk_drew ?_ | refine blk_alloc ?_ _)); exact BK627.out) hb); have n4_ := Aside0.mk (below_step (by repeat (first | (with_reducible first | exact HB.out | apply below_alloc | apply pw_below_drewN | apply below_drew1 | refine below_set ?_ GE626.out | refine below_set ?_ GE627.out) | exact HB.out)) hb); clear HO631; clear HO635; clear BK626; clear BK627; clear HB; have HO631 := n0_; have HO635 := n1_; have BK626 := n2_; have BK627 := n3_; have HB := n4_; clear n0_ n1_ n2_ n3_ n4_; (try clear hb); (try clear hb2); (try clear hk); (try clear hi); obtain ⟨Ao39, co39, eo39⟩ := Kd.R_slice HO631.out; subst eo39))
    repeat (go_quiet (first | (go_at_call 50; (with_reducible refine (sym_Check.calls k a0_0 a0_1 a0_2 a0_3 a0_4 a0_5 16 t637 _ A17.out).mono ?_); rintro e w38 ⟨rfl, hb⟩; have n0_ := Aside0.mk (Kd.R_below (by (with_reducible repeat (first | apply Kd.R_alloc | apply Kd.R_drewN | apply Kd.R_drew)); exact HO631.out) hb); have n1_ := Aside0.mk (Kd.R_below (by (with_reducible repeat (first | apply Kd.R_alloc | apply Kd.R_drewN | apply Kd.R_drew)); exact HO635.out) hb); have n2_ := Aside0.mk (blk_below (g := gb626) (o := .cells #[.string a0_0, .int .u8 a0_1, .bool a0_2, .int .i64 a0_3, .int .i64 a0_4, .int .i64 a0_5] 64 (0, 0)) (by (with_reducible repeat (first | refine blk_drewN ?_ _ | refine blk_drew ?_ | refine blk_alloc ?_ _)); exact BK626.out) hb); have n3_ := Aside0.mk (blk_below (g := gb627) (o := .cells #[.string a2_0, .int .u8 a2_1, .bool a2_2, .int .i64 a2_3, .int .i64 a2_4, .int .i64 a2_5] 64 (0, 0)) (by (with_reducible repeat (first | refine blk_drewN ?_ _ | refine blk_drew ?_ | refine blk_alloc ?_ _)); exact BK627.out) hb); have n4_ := Aside0.mk (below_step (by repeat (first | (with_reducible first | exact HB.out | apply below_alloc | apply pw_below_drewN | apply below_drew1 | refine below_set ?_ GE626.out | refine below_set ?_ GE627.out) | exact HB.out)) hb); clear HO631; clear HO635; clear BK626; clear BK627; clear HB; have HO631 := n0_; have HO635 := n1_; have BK626 := n2_; have BK627 := n3_; have HB := n4_; clear n0_ n1_ n2_ n3_ n4_; (try clear hb); (try clear hb2); (try clear hk); (try clear hi); obtain ⟨Ao39, co39, eo39⟩ := Kd.R_slice HO631.out; subst eo39)); try go_wp2_with (first | (go_at_call 50; (with_reducible refine (sym_Check.calls k a0_0 a0_1 a0_2 a0_3 a0_4 a0_5 16 t637 _ A17.out).mono ?_); rintro e w38 ⟨rfl, hb⟩; have n0_ := Aside0.mk (Kd.R_below (by (with_reducible repeat (first | apply Kd.R_alloc | apply Kd.R_drewN | apply Kd.R_drew)); exact HO631.out) hb); have n1_ := Aside0.mk (Kd.R_below (by (with_reducible repeat (first | apply Kd.R_alloc | apply Kd.R_drewN | apply Kd.R_drew)); exact HO635.out) hb); have n2_ := Aside0.mk (blk_below (g := gb626) (o := .cells #[.string a0_0, .int .u8 a0_1, .bool a0_2, .int .i64 a0_3, .int .i64 a0_4, .int .i64 a0_5] 64 (0, 0)) (by (with_reducible repeat (first | refine blk_drewN ?_ _ | refine blk_drew ?_ | refine blk_alloc ?_ _)); exact BK626.out) hb); have n3_ := Aside0.mk (blk_below (g := gb627) (o := .cells #[.string a2_0, .int .u8 a2_1, .bool a2_2, .int .i64 a2_3, .int .i64 a2_4, .int .i64 a2_5] 64 (0, 0)) (by (with_reducible repeat (first | refine blk_drewN ?_ _ | refine blk_drew ?_ | refine blk_alloc ?_ _)); exact BK627.out) hb); have n4_ := Aside0.mk (below_step (by repeat (first | (with_reducible first | exact HB.out | apply below_alloc | apply pw_below_drewN | apply below_drew1 | refine below_set ?_ GE626.out | refine below_set ?_ GE627.out) | exact HB.out)) hb); clear HO631; clear HO635; clear BK626; clear BK627; clear HB; have HO631 := n0_; have HO635 := n1_; have BK626 := n2_; have BK627 := n3_; have HB := n4_; clear n0_ n1_ n2_ n3_ n4_; (try clear hb); (try clear hb2); (try clear hk); (try clear hi); obtain ⟨Ao39, co39, eo39⟩ := Kd.R_slice HO631.out; subst eo39)))
    go_meet
    case rel => exact ⟨_, (((t629.length : Int) != 0)), (by first | rfl | (simp; done) | (simp [*]; done)), H', ⟨by first | omega | exact Nat.le_refl _⟩, ⟨by (with_reducible repeat (first | apply Kd.R_alloc | apply Kd.R_drewN | apply Kd.R_drew)); exact Kd.R_mono HO631.out (fun _ hk => hk.2)⟩, ⟨by (with_reducible repeat (first | apply Kd.R_alloc | apply Kd.R_drewN | apply Kd.R_drew)); exact Kd.R_mono HO635.out (fun _ hk => hk.2)⟩, ⟨by (with_reducible repeat (first | refine blk_drewN ?_ _ | refine blk_drew ?_ | refine blk_alloc ?_ _)); exact BK626.out⟩, ⟨by (with_reducible repeat (first | refine blk_drewN ?_ _ | refine blk_drew ?_ | refine blk_alloc ?_ _)); exact BK627.out⟩, ⟨by repeat (first | (with_reducible first | exact HB.out | apply below_alloc | apply pw_below_drewN | apply below_drew1 | refine below_set ?_ GE626.out | refine below_set ?_ GE627.out) | exact HB.out)⟩⟩
 case rest =>
  clear HC8
  try clear c1
  try clear c2
  try clear p2
  try clear c3
  try clear c12
  try clear c17
  try clear c18
  try clear c18b0
  try clear c18b1
  try clear c19
  try clear c19b0
  try clear c20
  try clear c20b0
  try clear c20b1
  try clear c21
  try clear c21b0
  try clear c22
  try clear c25
  try clear c25b0
  try clear c26
  try clear c30
  try clear c30b0
  try clear c30b1
  try clear c31
  try clear c35
  try clear c35b0
  try clear c35b1
  try clear c36
  try clear hcz13_0
  try clear hcz13_1
  try clear hcz13_2
  try clear hcz13_3
  try clear hcz13_4
  try clear hcz13_5
  try clear hcz15_0
  try clear hcz15_1
  try clear hcz15_2
  try clear hcz15_3
  try clear hcz15_4
  try clear hcz15_5
  try clear hcz23_0
  try clear hcz23_1
  try clear hcz23_2
  try clear hcz23_3
  try clear hcz23_4
  try clear hcz23_5
  try clear hcz27_0
  try clear hcz27_1
  try clear hcz27_2
  try clear hcz27_3
  try clear hcz27_4
  try clear hcz27_5
  try clear hcz32_0
  try clear hcz32_1
  try clear hcz32_2
  try clear hcz32_3
  try clear hcz32_4
  try clear hcz32_5
  try clear hcz37_0
  try clear hcz37_1
  try clear hcz37_2
  try clear hcz37_3
  try clear hcz37_4
  try clear hcz37_5
  try clear hfz13_0
  try clear hfz13_1
  try clear hfz13_2
  try clear hfz13_3
  try clear hfz13_4
  try clear hfz13_5
  try clear hfz15_0
  try clear hfz15_1
  try clear hfz15_2
  try clear hfz15_3
  try clear hfz15_4
  try clear hfz15_5
  try clear hfz23_0
  try clear hfz23_1
  try clear hfz23_2
  try clear hfz23_3
  try clear hfz23_4
  try clear hfz23_5
  try clear hfz27_0
  try clear hfz27_1
  try clear hfz27_2
  try clear hfz27_3
  try clear hfz27_4
  try clear hfz27_5
  try clear hfz32_0
  try clear hfz32_1
  try clear hfz32_2
  try clear hfz32_3
  try clear hfz32_4
  try clear hfz32_5
  try clear hfz37_0
  try clear hfz37_1
  try clear hfz37_2
  try clear hfz37_3
  try clear hfz37_4
  try clear hfz37_5
  obtain ⟨kq, x49_7, rfl, HA, HJ7, HO_10, HO_12, BK626, BK627, HB⟩ := hcut
  cases kq with
  | zero => exact absurd HA.out (by simp [quoinlaw10_SymUnlike.j0])
  | succ kj7 =>
   have H := HA.out
   clear HA
   simp only [quoinlaw10_SymUnlike.j0] at H
   by_cases c40 : x49_7 = true
   ·
    subst c40
    have H1 : (none) = some r := by rw [if_pos rfl] at H; exact H
    clear H
    have H := H1
    clear H1
    exact absurd H (by simp)
   ·
    replace c40 := Bool.eq_false_iff.mpr c40
    subst c40
    have H1 : (if t632 = 0 then (if t636 = 0 then (if t628 = true then (if (t629.length : Int) = 24 then (if (a0_1 == a2_1 && (a0_2 == a2_2 && (a0_3 == a2_3 && (a0_4 == a2_4 && (a0_5 == a2_5))))) = true then (if (strOfNums t629).toList = (strOfNums t633).toList then (some (a1 == a3)) else (some (!(a1 == a3)))) else (if (strOfNums t629).toList = (strOfNums t633).toList then (none) else (some true))) else (none)) else (none)) else (some t628)) else (some t628)) = some r := by rw [if_neg (show ¬ (false = true) by decide)] at H; exact H
    clear H
    have H := H1
    clear H1
    by_cases c41 : t632 = 0
    ·
     rw [if_pos c41] at H
     have c41b0 : (t632 == 0) = true := beq_iff_eq.mpr c41
     have c41b1 : (t632 != 0) = false := bne_eq_false_iff_eq.mpr c41
     clear c41
     by_cases c42 : t636 = 0
     ·
      rw [if_pos c42] at H
      have c42b0 : (t636 == 0) = true := beq_iff_eq.mpr c42
      have c42b1 : (t636 != 0) = false := bne_eq_false_iff_eq.mpr c42
      clear c42
      by_cases c43 : t628 = true
      ·
       subst c43
       have H1 : (if (t629.length : Int) = 24 then (if (a0_1 == a2_1 && (a0_2 == a2_2 && (a0_3 == a2_3 && (a0_4 == a2_4 && (a0_5 == a2_5))))) = true then (if (strOfNums t629).toList = (strOfNums t633).toList then (some (a1 == a3)) else (some (!(a1 == a3)))) else (if (strOfNums t629).toList = (strOfNums t633).toList then (none) else (some true))) else (none)) = some r := by rw [if_pos rfl] at H; exact H
       clear H
       have H := H1
       clear H1
       by_cases c44 : (t629.length : Int) = 24
       ·
        rw [if_pos c44] at H
        have c44b0 : ((t629.length : Int) == 24) = true := beq_iff_eq.mpr c44
        have c44b1 : ((t629.length : Int) != 24) = false := bne_eq_false_iff_eq.mpr c44
        clear c44
        by_cases c45 : (a0_1 == a2_1 && (a0_2 == a2_2 && (a0_3 == a2_3 && (a0_4 == a2_4 && (a0_5 == a2_5))))) = true
        ·
         rw [if_pos c45] at H
         have c45b0 : (a0_1 == a2_1 && (a0_2 == a2_2 && (a0_3 == a2_3 && (a0_4 == a2_4 && (a0_5 == a2_5))))) = true := c45
         (try (have c45b1 : decide (a0_1 = a2_1 && (a0_2 == a2_2 && (a0_3 == a2_3 && (a0_4 == a2_4 && (a0_5 == a2_5))))) = true := by simpa using c45))
         (try (have c45b2 : (a0_1 == a2_1 && (a0_2 == a2_2 && (a0_3 == a2_3 && (a0_4 == a2_4 && (a0_5 == a2_5))))) = true := by simpa using c45))
         (try (have c45b3 : a0_1 = a2_1 ∧ a0_2 = a2_2 ∧ a0_3 = a2_3 ∧ a0_4 = a2_4 ∧ a0_5 = a2_5 := by simpa using c45))
         clear c45
         by_cases c46 : (strOfNums t629).toList = (strOfNums t633).toList
         ·
          rw [if_pos c46] at H
          have c46b0 : ((strOfNums t629).toList == (strOfNums t633).toList) = true := beq_iff_eq.mpr c46
          have c46b1 : ((strOfNums t629).toList != (strOfNums t633).toList) = false := bne_eq_false_iff_eq.mpr c46
          clear c46
          obtain rfl := Option.some.inj H
          have hnb47 := NB627_626.out
          have hnc47 := NB626_627.out
          have hcz48_0 : wc.cell? ⟨gb627, 0, none⟩ = some (.string a2_0) := (blk_cell BK627.out 0).trans rfl
          have hcz48_1 : wc.cell? ⟨gb627, 1, none⟩ = some (.int .u8 a2_1) := (blk_cell BK627.out 1).trans rfl
          have hcz48_2 : wc.cell? ⟨gb627, 2, none⟩ = some (.bool a2_2) := (blk_cell BK627.out 2).trans rfl
          have hcz48_3 : wc.cell? ⟨gb627, 3, none⟩ = some (.int .i64 a2_3) := (blk_cell BK627.out 3).trans rfl
          have hcz48_4 : wc.cell? ⟨gb627, 4, none⟩ = some (.int .i64 a2_4) := (blk_cell BK627.out 4).trans rfl
          have hcz48_5 : wc.cell? ⟨gb627, 5, none⟩ = some (.int .i64 a2_5) := (blk_cell BK627.out 5).trans rfl
          have hfz48_0 := blk_frozen BK627.out 0
          have hfz48_1 := blk_frozen BK627.out 1
          have hfz48_2 := blk_frozen BK627.out 2
          have hfz48_3 := blk_frozen BK627.out 3
          have hfz48_4 := blk_frozen BK627.out 4
          have hfz48_5 := blk_frozen BK627.out 5
          have hcz49_0 : wc.cell? ⟨gb626, 0, none⟩ = some (.string a0_0) := (blk_cell BK626.out 0).trans rfl
          have hcz49_1 : wc.cell? ⟨gb626, 1, none⟩ = some (.int .u8 a0_1) := (blk_cell BK626.out 1).trans rfl
          have hcz49_2 : wc.cell? ⟨gb626, 2, none⟩ = some (.bool a0_2) := (blk_cell BK626.out 2).trans rfl
          have hcz49_3 : wc.cell? ⟨gb626, 3, none⟩ = some (.int .i64 a0_3) := (blk_cell BK626.out 3).trans rfl
          have hcz49_4 : wc.cell? ⟨gb626, 4, none⟩ = some (.int .i64 a0_4) := (blk_cell BK626.out 4).trans rfl
          have hcz49_5 : wc.cell? ⟨gb626, 5, none⟩ = some (.int .i64 a0_5) := (blk_cell BK626.out 5).trans rfl
          have hfz49_0 := blk_frozen BK626.out 0
          have hfz49_1 := blk_frozen BK626.out 1
          have hfz49_2 := blk_frozen BK626.out 2
          have hfz49_3 := blk_frozen BK626.out 3
          have hfz49_4 := blk_frozen BK626.out 4
          have hfz49_5 := blk_frozen BK626.out 5
          obtain ⟨Ao50, co50, eo50⟩ := Kd.R_slice HO_10.out
          subst eo50
          have hcv51 := own_string (P := Try.prog) Try.underlying24 Try.underlying5 Try.underlying9 (Kd.own_of_R HO_10.out)
          have hcv52 := fun n_ : Nat => own_string (P := Try.prog) Try.underlying24 Try.underlying5 Try.underlying9 (Kd.own_of_R (Kd.R_drewN HO_10.out n_))
          have hcv53 := fun (i_ : Nat) (u_ : Value) => own_string (P := Try.prog) Try.underlying24 Try.underlying5 Try.underlying9 (Kd.own_of_R (Kd.R_far (p := ⟨gb626, i_, none⟩) (Kd.R_types HO_10.out BK626.out (by decide)) (fun _ hk => hk.2) u_))
          have hcv54 := fun (i_ : Nat) (u_ : Value) (n_ : Nat) => own_string (P := Try.prog) Try.underlying24 Try.underlying5 Try.underlying9 (Kd.own_of_R (Kd.R_drewN (Kd.R_far (p := ⟨gb626, i_, none⟩) (Kd.R_types HO_10.out BK626.out (by decide)) (fun _ hk => hk.2) u_) n_))
          have hcv55 := fun (i_ : Nat) (u_ : Value) => own_string (P := Try.prog) Try.underlying24 Try.underlying5 Try.underlying9 (Kd.own_of_R (Kd.R_far (p := ⟨gb627, i_, none⟩) (Kd.R_types HO_10.out BK627.out (by decide)) (fun _ hk => hk.2) u_))
          have hcv56 := fun (i_ : Nat) (u_ : Value) (n_ : Nat) => own_string (P := Try.prog) Try.underlying24 Try.underlying5 Try.underlying9 (Kd.own_of_R (Kd.R_drewN (Kd.R_far (p := ⟨gb627, i_, none⟩) (Kd.R_types HO_10.out BK627.out (by decide)) (fun _ hk => hk.2) u_) n_))
          have hcv57 := own_string (P := Try.prog) Try.underlying24 Try.underlying5 Try.underlying9 (Kd.own_of_R HO_12.out)
          have hcv58 := fun n_ : Nat => own_string (P := Try.prog) Try.underlying24 Try.underlying5 Try.underlying9 (Kd.own_of_R (Kd.R_drewN HO_12.out n_))
          have hcv59 := fun (i_ : Nat) (u_ : Value) => own_string (P := Try.prog) Try.underlying24 Try.underlying5 Try.underlying9 (Kd.own_of_R (Kd.R_far (p := ⟨gb626, i_, none⟩) (Kd.R_types HO_12.out BK626.out (by decide)) (fun _ hk => hk.2) u_))
          have hcv60 := fun (i_ : Nat) (u_ : Value) (n_ : Nat) => own_string (P := Try.prog) Try.underlying24 Try.underlying5 Try.underlying9 (Kd.own_of_R (Kd.R_drewN (Kd.R_far (p := ⟨gb626, i_, none⟩) (Kd.R_types HO_12.out BK626.out (by decide)) (fun _ hk => hk.2) u_) n_))
          have hcv61 := fun (i_ : Nat) (u_ : Value) => own_string (P := Try.prog) Try.underlying24 Try.underlying5 Try.underlying9 (Kd.own_of_R (Kd.R_far (p := ⟨gb627, i_, none⟩) (Kd.R_types HO_12.out BK627.out (by decide)) (fun _ hk => hk.2) u_))
          have hcv62 := fun (i_ : Nat) (u_ : Value) (n_ : Nat) => own_string (P := Try.prog) Try.underlying24 Try.underlying5 Try.underlying9 (Kd.own_of_R (Kd.R_drewN (Kd.R_far (p := ⟨gb627, i_, none⟩) (Kd.R_types HO_12.out BK627.out (by decide)) (fun _ hk => hk.2) u_) n_))
          go_wp2
          repeat (go_quiet (fail); try go_wp2)
          go_ret
          exact ⟨by first | rfl | (simp [errW_none, errW_some] <;> rfl) | (simp [*, errW_none, errW_some] <;> rfl), by repeat (first | (with_reducible first | exact HB.out | apply below_alloc | apply pw_below_drewN | apply below_drew1 | refine below_set ?_ GE626.out | refine below_set ?_ GE627.out) | exact HB.out)⟩
         ·
          rw [if_neg c46] at H
          have c46b0 : ((strOfNums t629).toList == (strOfNums t633).toList) = false := beq_eq_false_iff_ne.mpr c46
          have c46b1 : ((strOfNums t629).toList != (strOfNums t633).toList) = true := bne_iff_ne.mpr c46
          obtain rfl := Option.some.inj H
          have hnb63 := NB627_626.out
          have hnc63 := NB626_627.out
          have hcz64_0 : wc.cell? ⟨gb627, 0, none⟩ = some (.string a2_0) := (blk_cell BK627.out 0).trans rfl
          have hcz64_1 : wc.cell? ⟨gb627, 1, none⟩ = some (.int .u8 a2_1) := (blk_cell BK627.out 1).trans rfl
          have hcz64_2 : wc.cell? ⟨gb627, 2, none⟩ = some (.bool a2_2) := (blk_cell BK627.out 2).trans rfl
          have hcz64_3 : wc.cell? ⟨gb627, 3, none⟩ = some (.int .i64 a2_3) := (blk_cell BK627.out 3).trans rfl
          have hcz64_4 : wc.cell? ⟨gb627, 4, none⟩ = some (.int .i64 a2_4) := (blk_cell BK627.out 4).trans rfl
          have hcz64_5 : wc.cell? ⟨gb627, 5, none⟩ = some (.int .i64 a2_5) := (blk_cell BK627.out 5).trans rfl
          have hfz64_0 := blk_frozen BK627.out 0
          have hfz64_1 := blk_frozen BK627.out 1
          have hfz64_2 := blk_frozen BK627.out 2
          have hfz64_3 := blk_frozen BK627.out 3
          have hfz64_4 := blk_frozen BK627.out 4
          have hfz64_5 := blk_frozen BK627.out 5
          have hcz65_0 : wc.cell? ⟨gb626, 0, none⟩ = some (.string a0_0) := (blk_cell BK626.out 0).trans rfl
          have hcz65_1 : wc.cell? ⟨gb626, 1, none⟩ = some (.int .u8 a0_1) := (blk_cell BK626.out 1).trans rfl
          have hcz65_2 : wc.cell? ⟨gb626, 2, none⟩ = some (.bool a0_2) := (blk_cell BK626.out 2).trans rfl
          have hcz65_3 : wc.cell? ⟨gb626, 3, none⟩ = some (.int .i64 a0_3) := (blk_cell BK626.out 3).trans rfl
          have hcz65_4 : wc.cell? ⟨gb626, 4, none⟩ = some (.int .i64 a0_4) := (blk_cell BK626.out 4).trans rfl
          have hcz65_5 : wc.cell? ⟨gb626, 5, none⟩ = some (.int .i64 a0_5) := (blk_cell BK626.out 5).trans rfl
          have hfz65_0 := blk_frozen BK626.out 0
          have hfz65_1 := blk_frozen BK626.out 1
          have hfz65_2 := blk_frozen BK626.out 2
          have hfz65_3 := blk_frozen BK626.out 3
          have hfz65_4 := blk_frozen BK626.out 4
          have hfz65_5 := blk_frozen BK626.out 5
          obtain ⟨Ao66, co66, eo66⟩ := Kd.R_slice HO_10.out
          subst eo66
          have hcv67 := own_string (P := Try.prog) Try.underlying24 Try.underlying5 Try.underlying9 (Kd.own_of_R HO_10.out)
          have hcv68 := fun n_ : Nat => own_string (P := Try.prog) Try.underlying24 Try.underlying5 Try.underlying9 (Kd.own_of_R (Kd.R_drewN HO_10.out n_))
          have hcv69 := fun (i_ : Nat) (u_ : Value) => own_string (P := Try.prog) Try.underlying24 Try.underlying5 Try.underlying9 (Kd.own_of_R (Kd.R_far (p := ⟨gb626, i_, none⟩) (Kd.R_types HO_10.out BK626.out (by decide)) (fun _ hk => hk.2) u_))
          have hcv70 := fun (i_ : Nat) (u_ : Value) (n_ : Nat) => own_string (P := Try.prog) Try.underlying24 Try.underlying5 Try.underlying9 (Kd.own_of_R (Kd.R_drewN (Kd.R_far (p := ⟨gb626, i_, none⟩) (Kd.R_types HO_10.out BK626.out (by decide)) (fun _ hk => hk.2) u_) n_))
          have hcv71 := fun (i_ : Nat) (u_ : Value) => own_string (P := Try.prog) Try.underlying24 Try.underlying5 Try.underlying9 (Kd.own_of_R (Kd.R_far (p := ⟨gb627, i_, none⟩) (Kd.R_types HO_10.out BK627.out (by decide)) (fun _ hk => hk.2) u_))
          have hcv72 := fun (i_ : Nat) (u_ : Value) (n_ : Nat) => own_string (P := Try.prog) Try.underlying24 Try.underlying5 Try.underlying9 (Kd.own_of_R (Kd.R_drewN (Kd.R_far (p := ⟨gb627, i_, none⟩) (Kd.R_types HO_10.out BK627.out (by decide)) (fun _ hk => hk.2) u_) n_))
          have hcv73 := own_string (P := Try.prog) Try.underlying24 Try.underlying5 Try.underlying9 (Kd.own_of_R HO_12.out)
          have hcv74 := fun n_ : Nat => own_string (P := Try.prog) Try.underlying24 Try.underlying5 Try.underlying9 (Kd.own_of_R (Kd.R_drewN HO_12.out n_))
          have hcv75 := fun (i_ : Nat) (u_ : Value) => own_string (P := Try.prog) Try.underlying24 Try.underlying5 Try.underlying9 (Kd.own_of_R (Kd.R_far (p := ⟨gb626, i_, none⟩) (Kd.R_types HO_12.out BK626.out (by decide)) (fun _ hk => hk.2) u_))
          have hcv76 := fun (i_ : Nat) (u_ : Value) (n_ : Nat) => own_string (P := Try.prog) Try.underlying24 Try.underlying5 Try.underlying9 (Kd.own_of_R (Kd.R_drewN (Kd.R_far (p := ⟨gb626, i_, none⟩) (Kd.R_types HO_12.out BK626.out (by decide)) (fun _ hk => hk.2) u_) n_))
          have hcv77 := fun (i_ : Nat) (u_ : Value) => own_string (P := Try.prog) Try.underlying24 Try.underlying5 Try.underlying9 (Kd.own_of_R (Kd.R_far (p := ⟨gb627, i_, none⟩) (Kd.R_types HO_12.out BK627.out (by decide)) (fun _ hk => hk.2) u_))
          have hcv78 := fun (i_ : Nat) (u_ : Value) (n_ : Nat) => own_string (P := Try.prog) Try.underlying24 Try.underlying5 Try.underlying9 (Kd.own_of_R (Kd.R_drewN (Kd.R_far (p := ⟨gb627, i_, none⟩) (Kd.R_types HO_12.out BK627.out (by decide)) (fun _ hk => hk.2) u_) n_))
          go_wp2
          repeat (go_quiet (fail); try go_wp2)
          go_ret
          exact ⟨by first | rfl | (simp [errW_none, errW_some] <;> rfl) | (simp [*, errW_none, errW_some] <;> rfl), by repeat (first | (with_reducible first | exact HB.out | apply below_alloc | apply pw_below_drewN | apply below_drew1 | refine below_set ?_ GE626.out | refine below_set ?_ GE627.out) | exact HB.out)⟩
        ·
         rw [if_neg c45] at H
         have c45b0 : (a0_1 == a2_1 && (a0_2 == a2_2 && (a0_3 == a2_3 && (a0_4 == a2_4 && (a0_5 == a2_5))))) = false := by simpa using c45
         (try (have c45b1 : decide (a0_1 = a2_1 && (a0_2 == a2_2 && (a0_3 == a2_3 && (a0_4 == a2_4 && (a0_5 == a2_5))))) = false := by simpa using c45))
         (try (have c45b2 : (a0_1 == a2_1 && (a0_2 == a2_2 && (a0_3 == a2_3 && (a0_4 == a2_4 && (a0_5 == a2_5))))) = false := by simpa using c45))
         (try (have c45b3 : ¬ (a0_1 = a2_1 && (a0_2 == a2_2 && (a0_3 == a2_3 && (a0_4 == a2_4 && (a0_5 == a2_5))))) := by simpa using c45))
         (try (have c45b4 : ¬ (a0_1 = a2_1 ∧ a0_2 = a2_2 ∧ a0_3 = a2_3 ∧ a0_4 = a2_4 ∧ a0_5 = a2_5) := by simpa using c45))
         clear c45
         by_cases c79 : (strOfNums t629).toList = (strOfNums t633).toList
         ·
          rw [if_pos c79] at H
          exact absurd H (by simp)
         ·
          rw [if_neg c79] at H
          have c79b0 : ((strOfNums t629).toList == (strOfNums t633).toList) = false := beq_eq_false_iff_ne.mpr c79
          have c79b1 : ((strOfNums t629).toList != (strOfNums t633).toList) = true := bne_iff_ne.mpr c79
          obtain rfl := Option.some.inj H
          have hnb80 := NB627_626.out
          have hnc80 := NB626_627.out
          have hcz81_0 : wc.cell? ⟨gb627, 0, none⟩ = some (.string a2_0) := (blk_cell BK627.out 0).trans rfl
          have hcz81_1 : wc.cell? ⟨gb627, 1, none⟩ = some (.int .u8 a2_1) := (blk_cell BK627.out 1).trans rfl
          have hcz81_2 : wc.cell? ⟨gb627, 2, none⟩ = some (.bool a2_2) := (blk_cell BK627.out 2).trans rfl
          have hcz81_3 : wc.cell? ⟨gb627, 3, none⟩ = some (.int .i64 a2_3) := (blk_cell BK627.out 3).trans rfl
          have hcz81_4 : wc.cell? ⟨gb627, 4, none⟩ = some (.int .i64 a2_4) := (blk_cell BK627.out 4).trans rfl
          have hcz81_5 : wc.cell? ⟨gb627, 5, none⟩ = some (.int .i64 a2_5) := (blk_cell BK627.out 5).trans rfl
          have hfz81_0 := blk_frozen BK627.out 0
          have hfz81_1 := blk_frozen BK627.out 1
          have hfz81_2 := blk_frozen BK627.out 2
          have hfz81_3 := blk_frozen BK627.out 3
          have hfz81_4 := blk_frozen BK627.out 4
          have hfz81_5 := blk_frozen BK627.out 5
          have hcz82_0 : wc.cell? ⟨gb626, 0, none⟩ = some (.string a0_0) := (blk_cell BK626.out 0).trans rfl
          have hcz82_1 : wc.cell? ⟨gb626, 1, none⟩ = some (.int .u8 a0_1) := (blk_cell BK626.out 1).trans rfl
          have hcz82_2 : wc.cell? ⟨gb626, 2, none⟩ = some (.bool a0_2) := (blk_cell BK626.out 2).trans rfl
          have hcz82_3 : wc.cell? ⟨gb626, 3, none⟩ = some (.int .i64 a0_3) := (blk_cell BK626.out 3).trans rfl
          have hcz82_4 : wc.cell? ⟨gb626, 4, none⟩ = some (.int .i64 a0_4) := (blk_cell BK626.out 4).trans rfl
          have hcz82_5 : wc.cell? ⟨gb626, 5, none⟩ = some (.int .i64 a0_5) := (blk_cell BK626.out 5).trans rfl
          have hfz82_0 := blk_frozen BK626.out 0
          have hfz82_1 := blk_frozen BK626.out 1
          have hfz82_2 := blk_frozen BK626.out 2
          have hfz82_3 := blk_frozen BK626.out 3
          have hfz82_4 := blk_frozen BK626.out 4
          have hfz82_5 := blk_frozen BK626.out 5
          obtain ⟨Ao83, co83, eo83⟩ := Kd.R_slice HO_10.out
          subst eo83
          have hcv84 := own_string (P := Try.prog) Try.underlying24 Try.underlying5 Try.underlying9 (Kd.own_of_R HO_10.out)
          have hcv85 := fun n_ : Nat => own_string (P := Try.prog) Try.underlying24 Try.underlying5 Try.underlying9 (Kd.own_of_R (Kd.R_drewN HO_10.out n_))
          have hcv86 := fun (i_ : Nat) (u_ : Value) => own_string (P := Try.prog) Try.underlying24 Try.underlying5 Try.underlying9 (Kd.own_of_R (Kd.R_far (p := ⟨gb626, i_, none⟩) (Kd.R_types HO_10.out BK626.out (by decide)) (fun _ hk => hk.2) u_))
          have hcv87 := fun (i_ : Nat) (u_ : Value) (n_ : Nat) => own_string (P := Try.prog) Try.underlying24 Try.underlying5 Try.underlying9 (Kd.own_of_R (Kd.R_drewN (Kd.R_far (p := ⟨gb626, i_, none⟩) (Kd.R_types HO_10.out BK626.out (by decide)) (fun _ hk => hk.2) u_) n_))
          have hcv88 := fun (i_ : Nat) (u_ : Value) => own_string (P := Try.prog) Try.underlying24 Try.underlying5 Try.underlying9 (Kd.own_of_R (Kd.R_far (p := ⟨gb627, i_, none⟩) (Kd.R_types HO_10.out BK627.out (by decide)) (fun _ hk => hk.2) u_))
          have hcv89 := fun (i_ : Nat) (u_ : Value) (n_ : Nat) => own_string (P := Try.prog) Try.underlying24 Try.underlying5 Try.underlying9 (Kd.own_of_R (Kd.R_drewN (Kd.R_far (p := ⟨gb627, i_, none⟩) (Kd.R_types HO_10.out BK627.out (by decide)) (fun _ hk => hk.2) u_) n_))
          have hcv90 := own_string (P := Try.prog) Try.underlying24 Try.underlying5 Try.underlying9 (Kd.own_of_R HO_12.out)
          have hcv91 := fun n_ : Nat => own_string (P := Try.prog) Try.underlying24 Try.underlying5 Try.underlying9 (Kd.own_of_R (Kd.R_drewN HO_12.out n_))
          have hcv92 := fun (i_ : Nat) (u_ : Value) => own_string (P := Try.prog) Try.underlying24 Try.underlying5 Try.underlying9 (Kd.own_of_R (Kd.R_far (p := ⟨gb626, i_, none⟩) (Kd.R_types HO_12.out BK626.out (by decide)) (fun _ hk => hk.2) u_))
          have hcv93 := fun (i_ : Nat) (u_ : Value) (n_ : Nat) => own_string (P := Try.prog) Try.underlying24 Try.underlying5 Try.underlying9 (Kd.own_of_R (Kd.R_drewN (Kd.R_far (p := ⟨gb626, i_, none⟩) (Kd.R_types HO_12.out BK626.out (by decide)) (fun _ hk => hk.2) u_) n_))
          have hcv94 := fun (i_ : Nat) (u_ : Value) => own_string (P := Try.prog) Try.underlying24 Try.underlying5 Try.underlying9 (Kd.own_of_R (Kd.R_far (p := ⟨gb627, i_, none⟩) (Kd.R_types HO_12.out BK627.out (by decide)) (fun _ hk => hk.2) u_))
          have hcv95 := fun (i_ : Nat) (u_ : Value) (n_ : Nat) => own_string (P := Try.prog) Try.underlying24 Try.underlying5 Try.underlying9 (Kd.own_of_R (Kd.R_drewN (Kd.R_far (p := ⟨gb627, i_, none⟩) (Kd.R_types HO_12.out BK627.out (by decide)) (fun _ hk => hk.2) u_) n_))
          go_wp2
          repeat (go_quiet (fail); try go_wp2)
          go_ret
          exact ⟨by first | rfl | (simp [errW_none, errW_some] <;> rfl) | (simp [*, errW_none, errW_some] <;> rfl), by repeat (first | (with_reducible first | exact HB.out | apply below_alloc | apply pw_below_drewN | apply below_drew1 | refine below_set ?_ GE626.out | refine below_set ?_ GE627.out) | exact HB.out)⟩
       ·
        rw [if_neg c44] at H
        exact absurd H (by simp)
      ·
       replace c43 := Bool.eq_false_iff.mpr c43
       subst c43
       have H1 : (none) = some r := by rw [if_neg (show ¬ (false = true) by decide)] at H; exact H
       clear H
       have H := H1
       clear H1
       exact absurd H (by simp)
     ·
      rw [if_neg c42] at H
      have c42b0 : (t636 == 0) = false := beq_eq_false_iff_ne.mpr c42
      have c42b1 : (t636 != 0) = true := bne_iff_ne.mpr c42
      obtain rfl := Option.some.inj H
      go_wp2
      repeat (go_quiet (fail); try go_wp2)
      go_ret
      exact ⟨by first | rfl | (simp [errW_none, errW_some] <;> rfl) | (simp [*, errW_none, errW_some] <;> rfl), by repeat (first | (with_reducible first | exact HB.out | apply below_alloc | apply pw_below_drewN | apply below_drew1 | refine below_set ?_ GE626.out | refine below_set ?_ GE627.out) | exact HB.out)⟩
    ·
     rw [if_neg c41] at H
     have c41b0 : (t632 == 0) = false := beq_eq_false_iff_ne.mpr c41
     have c41b1 : (t632 != 0) = true := bne_iff_ne.mpr c41
     obtain rfl := Option.some.inj H
     go_wp2
     repeat (go_quiet (fail); try go_wp2)
     go_ret
     exact ⟨by first | rfl | (simp [errW_none, errW_some] <;> rfl) | (simp [*, errW_none, errW_some] <;> rfl), by repeat (first | (with_reducible first | exact HB.out | apply below_alloc | apply pw_below_drewN | apply below_drew1 | refine below_set ?_ GE626.out | refine below_set ?_ GE627.out) | exact HB.out)⟩

/-- THE ONE PURE STATEMENT of quoinlaw10_SymUnlike: yours. -/
def quoinlaw10_SymUnlike.Pure : Prop := ∀ (a0_0 : ByteArray) (a0_1 : Int) (a0_2 : Bool) (a0_3 : Int) (a0_4 : Int) (a0_5 : Int) (a1 : Int) (a2_0 : ByteArray) (a2_1 : Int) (a2_2 : Bool) (a2_3 : Int) (a2_4 : Int) (a2_5 : Int) (a3 : Int), a0_0.size ≤ maxLen → (Lit.int .u8 a0_1).wf = true → (Lit.int .i64 a0_3).wf = true → (Lit.int .i64 a0_4).wf = true → (Lit.int .i64 a0_5).wf = true → (Lit.int .i64 a1).wf = true → a2_0.size ≤ maxLen → (Lit.int .u8 a2_1).wf = true → (Lit.int .i64 a2_3).wf = true → (Lit.int .i64 a2_4).wf = true → (Lit.int .i64 a2_5).wf = true → (Lit.int .i64 a3).wf = true → ∃ k, quoinlaw10_SymUnlike.f k a0_0 a0_1 a0_2 a0_3 a0_4 a0_5 a1 a2_0 a2_1 a2_2 a2_3 a2_4 a2_5 a3 = some true
theorem quoinlaw10_SymUnlike.walk (P : quoinlaw10_SymUnlike.Pure) (a0_0 : ByteArray) (a0_1 : Int) (a0_2 : Bool) (a0_3 : Int) (a0_4 : Int) (a0_5 : Int) (a1 : Int) (a2_0 : ByteArray) (a2_1 : Int) (a2_2 : Bool) (a2_3 : Int) (a2_4 : Int) (a2_5 : Int) (a3 : Int) (w : World) (w0_0 : a0_0.size ≤ maxLen) (w0_1 : (Lit.int .u8 a0_1).wf = true) (w0_2 : (Lit.int .i64 a0_3).wf = true) (w0_3 : (Lit.int .i64 a0_4).wf = true) (w0_4 : (Lit.int .i64 a0_5).wf = true) (w1_0 : (Lit.int .i64 a1).wf = true) (w2_0 : a2_0.size ≤ maxLen) (w2_1 : (Lit.int .u8 a2_1).wf = true) (w2_2 : (Lit.int .i64 a2_3).wf = true) (w2_3 : (Lit.int .i64 a2_4).wf = true) (w2_4 : (Lit.int .i64 a2_5).wf = true) (w3_0 : (Lit.int .i64 a3).wf = true) :
  Calls Try.prog 17 #[.agg #[.string a0_0, .int .u8 a0_1, .bool a0_2, .int .i64 a0_3, .int .i64 a0_4, .int .i64 a0_5], .int .i64 a1, .agg #[.string a2_0, .int .u8 a2_1, .bool a2_2, .int .i64 a2_3, .int .i64 a2_4, .int .i64 a2_5], .int .i64 a3] w fun e w' => e = .returned (.bool true) ∧ Below w.heap.size w w' := by
 obtain ⟨k, h⟩ := P a0_0 a0_1 a0_2 a0_3 a0_4 a0_5 a1 a2_0 a2_1 a2_2 a2_3 a2_4 a2_5 a3 w0_0 w0_1 w0_2 w0_3 w0_4 w1_0 w2_0 w2_1 w2_2 w2_3 w2_4 w3_0
 refine (quoinlaw10_SymUnlike.calls k a0_0 a0_1 a0_2 a0_3 a0_4 a0_5 a1 a2_0 a2_1 a2_2 a2_3 a2_4 a2_5 a3 true w h).mono ?_
 rintro e w' ⟨rfl, hd⟩
 exact ⟨rfl, hd⟩

end Go.Proofs.Ytomabnfeipobnaa.P
