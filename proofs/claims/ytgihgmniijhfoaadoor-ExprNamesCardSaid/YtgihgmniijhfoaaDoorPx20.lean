-- Written by pext.py, a program of this session, over the kit's print: a function's contract
import Derived.Test.YtgihgmniijhfoaaDoorPx0
import Derived.Test.YtgihgmniijhfoaaDoorPx1
import Derived.Test.YtgihgmniijhfoaaDoorPx6
import Derived.Test.YtgihgmniijhfoaaDoorPx7
import Derived.Test.YtgihgmniijhfoaaDoorPx8
import Derived.Test.YtgihgmniijhfoaaDoorPx9
namespace Go.Proofs.YtgihgmniijhfoaaDoor.P
open Go.RowKit Go.Proofs.YtgihgmniijhfoaaDoorW.PrintWords Go.Proofs.YtgihgmniijhfoaaDoorW.PrintLast Go.Proofs.YtgihgmniijhfoaaDoorW.PrintMore
attribute [local go_sem] max2_int min2_int max_two min_two max_three min_three max_four min_four   -- for this text's walks alone
set_option linter.unusedVariables false
set_option linter.unusedSimpArgs false

attribute [local go_sem high] eqA23
/-! ### quoinlaw16_bad: function 19 -/
def quoinlaw16_bad.f (a0 : ByteArray) : Option (Bool) := (lex_Tokens.f a0).bind fun bt393 => ((expr_Parse.f bt393.1 0).bind fun bt397 => (if bt393.2 = 0 then (some (bt397.2.2.2.2.2 == 160)) else (some false)))
set_option maxHeartbeats 8000000 in
set_option maxRecDepth 100000 in
theorem quoinlaw16_bad.calls (a0 : ByteArray) (r : Bool) (w : World) (hT : Lib.TabIs Tryd.prog w "internal/strconv.uint64pow10" .u64 Lib.pow10Tab) (hD : LexW.LexD w) (hE : LexW.LexE w) (hM : ExW.ModsAt w) (h : quoinlaw16_bad.f a0 = some r) :
  Calls Tryd.prog 19 #[.string a0] w fun e w' => e = .returned (.bool r) ∧ Below w.heap.size w w' := by
 have hu23 := Tryd.underlying23
 have HT := Aside0.mk hT
 clear hT
 have HD_ := Aside0.mk hD
 clear hD
 have HE_ := Aside0.mk hE
 clear hE
 have HM_ := Aside0.mk hM
 clear hM
 have HB := Aside0.mk (Below.refl w.heap.size w)
 have H : ((lex_Tokens.f a0).bind fun bt393 => ((expr_Parse.f bt393.1 0).bind fun bt397 => (if bt393.2 = 0 then (some (bt397.2.2.2.2.2 == 160)) else (some false)))) = some r := h
 clear h
 replace H := Option.bind_eq_some_iff.mp H
 obtain ⟨⟨t393, t394⟩, A20, H⟩ := H
 replace H : ((expr_Parse.f t393 0).bind fun bt397 => (if t394 = 0 then (some (bt397.2.2.2.2.2 == 160)) else (some false))) = some r := H
 have A2 := Aside0.mk A20
 clear A20
 replace H := Option.bind_eq_some_iff.mp H
 obtain ⟨⟨t397, t398, t399, t400, t401, t402⟩, A30, H⟩ := H
 replace H : (if t394 = 0 then (some (t402 == 160)) else (some false)) = some r := H
 have A3 := Aside0.mk A30
 clear A30
 by_cases c4 : t394 = 0
 ·
  rw [if_pos c4] at H
  have c4b0 : (t394 == 0) = true := beq_iff_eq.mpr c4
  have c4b1 : (t394 != 0) = false := bne_eq_false_iff_eq.mpr c4
  clear c4
  obtain rfl := Option.some.inj H
  go_enter Tryd.func19, Tryd.ntmps19
  go_wp2_with (first | ((with_reducible refine gate_callee (f := 18) rfl ?_); refine goesL_ (some 10) rfl rfl Tryd.func18 (by kernel_rfl) rfl #[.string a0] rfl (by (try simp only [List.map_toArray, List.map_cons, List.map_nil]); first | done | rfl | (simp only [List.length_drop, List.length_take]; rfl)) ?_; (with_reducible refine (lex_Tokens.calls a0 t393 t394 _ ?side1 A2.out).mono ?_); (case side1 => exact HE_.out.below (by repeat (first | (with_reducible first | exact HB.out | apply below_alloc | apply pw_below_drewN | apply below_drew1) | exact HB.out))); rintro e w5 ⟨v395, rfl, ho0, hb⟩; refine ⟨_, rfl, ?_⟩; have n0_ := Aside0.mk (Kd.R_lower ho0 (below_size (by repeat (first | (with_reducible first | exact HB.out | apply below_alloc | apply pw_below_drewN | apply below_drew1) | exact HB.out)))); have n1_ := Aside0.mk (below_step (by repeat (first | (with_reducible first | exact HB.out | apply below_alloc | apply pw_below_drewN | apply below_drew1) | exact HB.out)) hb); clear HB; have HO396 := n0_; have HB := n1_; clear n0_ n1_; (try clear hb); (try clear hb2); (try clear hk); (try clear hi); (try clear ho0); obtain ⟨Ao6, co6, eo6⟩ := Kd.R_slice HO396.out; subst eo6) | ((with_reducible refine gate_callee (f := 15) rfl ?_); refine goesL_ (some 15) rfl rfl Tryd.func15 (by kernel_rfl) rfl #[.slice Ao6 t393.length co6, .int .i64 0] rfl (by (try simp only [List.map_toArray, List.map_cons, List.map_nil]); first | done | rfl | (simp only [List.length_drop, List.length_take]; rfl)) ?_; (with_reducible refine (expr_Parse.calls _ _ t393 0 t397 t398 t399 t400 t401 t402 _ ?side1 ?side2 ?side3 ?side4 ?side5 A3.out).mono ?_); (case side1 => repeat (first | exact (Kd.R_reads' HO396.out).2.2 | (with_reducible refine Kd.C_alloc ?_ _) | (with_reducible refine Kd.C_drewN ?_ _) | (with_reducible refine Kd.C_drew ?_))); (case side2 => exact (Kd.R_reads' HO396.out).2.1); (case side3 => exact Lib.tabBelow_of_tabIs HT.out _ (by repeat (first | (with_reducible first | exact HB.out | apply below_alloc | apply pw_below_drewN | apply below_drew1) | exact HB.out))); (case side4 => exact HD_.out.below (by repeat (first | (with_reducible first | exact HB.out | apply below_alloc | apply pw_below_drewN | apply below_drew1) | exact HB.out))); (case side5 => exact HM_.out.below (by repeat (first | (with_reducible first | exact HB.out | apply below_alloc | apply pw_below_drewN | apply below_drew1) | exact HB.out))); rintro e w7 ⟨rfl, hb⟩; refine ⟨_, rfl, ?_⟩; have n0_ := Aside0.mk (Kd.R_below (by (with_reducible repeat (first | apply Kd.R_alloc | apply Kd.R_drewN | apply Kd.R_drew)); exact HO396.out) hb); have n1_ := Aside0.mk (below_step (by repeat (first | (with_reducible first | exact HB.out | apply below_alloc | apply pw_below_drewN | apply below_drew1) | exact HB.out)) hb); clear HO396; clear HB; have HO396 := n0_; have HB := n1_; clear n0_ n1_; (try clear hb); (try clear hb2); (try clear hk); (try clear hi)) | ((with_reducible refine gate_dst (N := 5) rfl ?_); refine box_event ?hg (N := 5) ?hd (cs := #[.string (⟨#[]⟩ : ByteArray), .string (⟨#[]⟩ : ByteArray), .int .i64 0, .int .u8 0]) (t := 23) ?hr ?_; (case hd => rfl); (case hg => rfl); (case hr => first | (go_simp; done) | (go_simp; rfl)); intro gb403 hg w8 hbox hb; have n0_ := Aside0.mk (Kd.R_below (by (with_reducible repeat (first | apply Kd.R_alloc | apply Kd.R_drewN | apply Kd.R_drew)); exact HO396.out) hb); have n1_ := Aside0.mk (below_step (by repeat (first | (with_reducible first | exact HB.out | apply below_alloc | apply pw_below_drewN | apply below_drew1) | exact HB.out)) hb); have n2_ := Aside0.mk (hbox); have n3_ := Aside0.mk ((by rw [hg]; exact (below_size (by repeat (first | (with_reducible first | exact HB.out | apply below_alloc | apply pw_below_drewN | apply below_drew1) | exact HB.out))) : w.heap.size ≤ gb403)); have n4_ := Aside0.mk ((by rw [hg]; exact (below_size (by repeat (first | (with_reducible first | exact HB.out | apply below_alloc | apply pw_below_drewN | apply below_drew1) | exact HB.out))) : w.heap.size ≤ gb403)); clear HO396; clear HB; have HO396 := n0_; have HB := n1_; have BK403 := n2_; have GW403 := n3_; have GE403 := n4_; clear n0_ n1_ n2_ n3_ n4_; clear hb hbox hg; have hcz9_0 : w8.cell? ⟨gb403, 0, none⟩ = some (.string (⟨#[]⟩ : ByteArray)) := (blk_cell BK403.out 0).trans rfl; have hcz9_1 : w8.cell? ⟨gb403, 1, none⟩ = some (.string (⟨#[]⟩ : ByteArray)) := (blk_cell BK403.out 1).trans rfl; have hcz9_2 : w8.cell? ⟨gb403, 2, none⟩ = some (.int .i64 0) := (blk_cell BK403.out 2).trans rfl; have hcz9_3 : w8.cell? ⟨gb403, 3, none⟩ = some (.int .u8 0) := (blk_cell BK403.out 3).trans rfl; have hfz9_0 := blk_frozen BK403.out 0; have hfz9_1 := blk_frozen BK403.out 1; have hfz9_2 := blk_frozen BK403.out 2; have hfz9_3 := blk_frozen BK403.out 3))
  go_ret
  exact ⟨by first | rfl | (simp [errW_none, errW_some] <;> rfl) | (simp [*, errW_none, errW_some] <;> rfl), by repeat (first | (with_reducible first | exact HB.out | apply below_alloc | apply pw_below_drewN | apply below_drew1 | refine below_set ?_ GE403.out) | exact HB.out)⟩
 ·
  rw [if_neg c4] at H
  have c4b0 : (t394 == 0) = false := beq_eq_false_iff_ne.mpr c4
  have c4b1 : (t394 != 0) = true := bne_iff_ne.mpr c4
  obtain rfl := Option.some.inj H
  go_enter Tryd.func19, Tryd.ntmps19
  go_wp2_with (first | ((with_reducible refine gate_callee (f := 18) rfl ?_); refine goesL_ (some 10) rfl rfl Tryd.func18 (by kernel_rfl) rfl #[.string a0] rfl (by (try simp only [List.map_toArray, List.map_cons, List.map_nil]); first | done | rfl | (simp only [List.length_drop, List.length_take]; rfl)) ?_; (with_reducible refine (lex_Tokens.calls a0 t393 t394 _ ?side1 A2.out).mono ?_); (case side1 => exact HE_.out.below (by repeat (first | (with_reducible first | exact HB.out | apply below_alloc | apply pw_below_drewN | apply below_drew1) | exact HB.out))); rintro e w10 ⟨v395, rfl, ho0, hb⟩; refine ⟨_, rfl, ?_⟩; have n0_ := Aside0.mk (Kd.R_lower ho0 (below_size (by repeat (first | (with_reducible first | exact HB.out | apply below_alloc | apply pw_below_drewN | apply below_drew1) | exact HB.out)))); have n1_ := Aside0.mk (below_step (by repeat (first | (with_reducible first | exact HB.out | apply below_alloc | apply pw_below_drewN | apply below_drew1) | exact HB.out)) hb); clear HB; have HO396 := n0_; have HB := n1_; clear n0_ n1_; (try clear hb); (try clear hb2); (try clear hk); (try clear hi); (try clear ho0); obtain ⟨Ao11, co11, eo11⟩ := Kd.R_slice HO396.out; subst eo11) | ((with_reducible refine gate_callee (f := 15) rfl ?_); refine goesL_ (some 15) rfl rfl Tryd.func15 (by kernel_rfl) rfl #[.slice Ao11 t393.length co11, .int .i64 0] rfl (by (try simp only [List.map_toArray, List.map_cons, List.map_nil]); first | done | rfl | (simp only [List.length_drop, List.length_take]; rfl)) ?_; (with_reducible refine (expr_Parse.calls _ _ t393 0 t397 t398 t399 t400 t401 t402 _ ?side1 ?side2 ?side3 ?side4 ?side5 A3.out).mono ?_); (case side1 => repeat (first | exact (Kd.R_reads' HO396.out).2.2 | (with_reducible refine Kd.C_alloc ?_ _) | (with_reducible refine Kd.C_drewN ?_ _) | (with_reducible refine Kd.C_drew ?_))); (case side2 => exact (Kd.R_reads' HO396.out).2.1); (case side3 => exact Lib.tabBelow_of_tabIs HT.out _ (by repeat (first | (with_reducible first | exact HB.out | apply below_alloc | apply pw_below_drewN | apply below_drew1) | exact HB.out))); (case side4 => exact HD_.out.below (by repeat (first | (with_reducible first | exact HB.out | apply below_alloc | apply pw_below_drewN | apply below_drew1) | exact HB.out))); (case side5 => exact HM_.out.below (by repeat (first | (with_reducible first | exact HB.out | apply below_alloc | apply pw_below_drewN | apply below_drew1) | exact HB.out))); rintro e w12 ⟨rfl, hb⟩; refine ⟨_, rfl, ?_⟩; have n0_ := Aside0.mk (Kd.R_below (by (with_reducible repeat (first | apply Kd.R_alloc | apply Kd.R_drewN | apply Kd.R_drew)); exact HO396.out) hb); have n1_ := Aside0.mk (below_step (by repeat (first | (with_reducible first | exact HB.out | apply below_alloc | apply pw_below_drewN | apply below_drew1) | exact HB.out)) hb); clear HO396; clear HB; have HO396 := n0_; have HB := n1_; clear n0_ n1_; (try clear hb); (try clear hb2); (try clear hk); (try clear hi)) | ((with_reducible refine gate_dst (N := 5) rfl ?_); refine box_event ?hg (N := 5) ?hd (cs := #[.string (⟨#[]⟩ : ByteArray), .string (⟨#[]⟩ : ByteArray), .int .i64 0, .int .u8 0]) (t := 23) ?hr ?_; (case hd => rfl); (case hg => rfl); (case hr => first | (go_simp; done) | (go_simp; rfl)); intro gb403 hg w13 hbox hb; have n0_ := Aside0.mk (Kd.R_below (by (with_reducible repeat (first | apply Kd.R_alloc | apply Kd.R_drewN | apply Kd.R_drew)); exact HO396.out) hb); have n1_ := Aside0.mk (below_step (by repeat (first | (with_reducible first | exact HB.out | apply below_alloc | apply pw_below_drewN | apply below_drew1) | exact HB.out)) hb); have n2_ := Aside0.mk (hbox); have n3_ := Aside0.mk ((by rw [hg]; exact (below_size (by repeat (first | (with_reducible first | exact HB.out | apply below_alloc | apply pw_below_drewN | apply below_drew1) | exact HB.out))) : w.heap.size ≤ gb403)); have n4_ := Aside0.mk ((by rw [hg]; exact (below_size (by repeat (first | (with_reducible first | exact HB.out | apply below_alloc | apply pw_below_drewN | apply below_drew1) | exact HB.out))) : w.heap.size ≤ gb403)); clear HO396; clear HB; have HO396 := n0_; have HB := n1_; have BK403 := n2_; have GW403 := n3_; have GE403 := n4_; clear n0_ n1_ n2_ n3_ n4_; clear hb hbox hg; have hcz14_0 : w13.cell? ⟨gb403, 0, none⟩ = some (.string (⟨#[]⟩ : ByteArray)) := (blk_cell BK403.out 0).trans rfl; have hcz14_1 : w13.cell? ⟨gb403, 1, none⟩ = some (.string (⟨#[]⟩ : ByteArray)) := (blk_cell BK403.out 1).trans rfl; have hcz14_2 : w13.cell? ⟨gb403, 2, none⟩ = some (.int .i64 0) := (blk_cell BK403.out 2).trans rfl; have hcz14_3 : w13.cell? ⟨gb403, 3, none⟩ = some (.int .u8 0) := (blk_cell BK403.out 3).trans rfl; have hfz14_0 := blk_frozen BK403.out 0; have hfz14_1 := blk_frozen BK403.out 1; have hfz14_2 := blk_frozen BK403.out 2; have hfz14_3 := blk_frozen BK403.out 3))
  go_ret
  exact ⟨by first | rfl | (simp [errW_none, errW_some] <;> rfl) | (simp [*, errW_none, errW_some] <;> rfl), by repeat (first | (with_reducible first | exact HB.out | apply below_alloc | apply pw_below_drewN | apply below_drew1 | refine below_set ?_ GE403.out) | exact HB.out)⟩

/-! ### quoinlaw16_ExprNames: function 6 -/
def quoinlaw16_ExprNames.f (k : Nat)  : Option (Bool) := some true
theorem quoinlaw16_ExprNames.mono : ∀ k, LeO (quoinlaw16_ExprNames.f k) (quoinlaw16_ExprNames.f (k + 1)) := fun _ => LeO.refl _
theorem bind_two {α β : Type} {x : Option (α × Int)} {f : α → Option β} {y : β} (h : (x.bind fun r => if r.2 = 0 then f r.1 else none) = some y) : ∃ l, x = some (l, 0) ∧ f l = some y := by
  cases x with
  | none => cases h
  | some r =>
    obtain ⟨l, e⟩ := r
    simp only [Option.bind_some] at h
    by_cases c : e = 0
    · rw [if_pos c] at h
      exact ⟨l, by rw [c], h⟩
    · rw [if_neg c] at h
      cases h
theorem alive_true : quoinlaw16_alive.f = some true := by decide +kernel
theorem put4_blk {W : World} {b t : Nat} {x y z u a c d e : Value} (h : W.heap[b]? = some (.cells #[x, y, z, u] t (0, 0))) :
    ((((W.setCell ⟨b, 0, none⟩ a).setCell ⟨b, 1, none⟩ c).setCell ⟨b, 2, none⟩ d).setCell ⟨b, 3, none⟩ e).heap[b]? = some (.cells #[a, c, d, e] t (0, 0)) :=
  blk_put (cs' := #[a, c, d, e]) (blk_put (cs' := #[a, c, d, u]) (blk_put (cs' := #[a, c, z, u]) (blk_put (cs' := #[a, y, z, u]) h 0 _ rfl) 1 _ rfl) 2 _ rfl) 3 _ rfl
theorem put4_below {w W : World} {b : Nat} {a c d e : Value} (h : Below w.heap.size w W) (hb : w.heap.size ≤ b) : Below w.heap.size w ((((W.setCell ⟨b, 0, none⟩ a).setCell ⟨b, 1, none⟩ c).setCell ⟨b, 2, none⟩ d).setCell ⟨b, 3, none⟩ e) :=
  below_set (below_set (below_set (below_set h hb) hb) hb) hb
set_option maxHeartbeats 8000000 in
set_option maxRecDepth 100000 in
theorem quoinlaw16_ExprNames.calls (k : Nat) (r : Bool) (w : World) (hT : Lib.TabIs Tryd.prog w "internal/strconv.uint64pow10" .u64 Lib.pow10Tab) (hD : LexW.LexD w) (hE : LexW.LexE w) (hM : ExW.ModsAt w) (h : quoinlaw16_ExprNames.f k = some r) :
    Calls Tryd.prog 6 #[] w fun e w' => e = .returned (.bool r) ∧ Below w.heap.size w w' := by
  obtain rfl := Option.some.inj h
  have HT := Aside0.mk hT
  have HD := Aside0.mk hD
  have HE := Aside0.mk hE
  have HM := Aside0.mk hM
  clear hT hD hE hM h
  obtain ⟨l1, a1, b1⟩ := bind_two (x := lex_Tokens.f (⟨#[37, 108, 111, 32, 40, 32, 120, 32, 43, 32, 52, 32, 41, 32, 40]⟩ : ByteArray)) (f := fun l => expr_Parse.f l 0) (y := ((⟨#[120]⟩ : ByteArray), (⟨#[]⟩ : ByteArray), 4, 2, 6, 0)) (by decide +kernel)
  obtain ⟨l2, a2, b2⟩ := bind_two (x := lex_Tokens.f (⟨#[120, 32, 121]⟩ : ByteArray)) (f := fun l => expr_Parse.f l 0) (y := ((⟨#[120]⟩ : ByteArray), (⟨#[]⟩ : ByteArray), 0, 0, 1, 0)) (by decide +kernel)
  obtain ⟨l3, a3, b3⟩ := bind_two (x := lex_Tokens.f (⟨#[120, 32, 121]⟩ : ByteArray)) (f := fun l => expr_Parse.f l 3) (y := ((⟨#[]⟩ : ByteArray), (⟨#[]⟩ : ByteArray), 0, 0, 0, 2)) (by decide +kernel)
  obtain rfl : l2 = l3 := congrArg Prod.fst (Option.some.inj (a2.symm.trans a3))
  clear a3
  have A1 := Aside0.mk a1
  have A2 := Aside0.mk a2
  have B1 := Aside0.mk b1
  have B2 := Aside0.mk b2
  have B3 := Aside0.mk b3
  have AL := Aside0.mk alive_true
  have C1 : Aside0 (quoinlaw16_bad.f (⟨#[]⟩ : ByteArray) = some true) := ⟨by decide +kernel⟩
  have C2 : Aside0 (quoinlaw16_bad.f (⟨#[43, 32, 43]⟩ : ByteArray) = some true) := ⟨by decide +kernel⟩
  have C3 : Aside0 (quoinlaw16_bad.f (⟨#[120, 32, 43, 32, 122]⟩ : ByteArray) = some true) := ⟨by decide +kernel⟩
  have C4 : Aside0 (quoinlaw16_bad.f (⟨#[45, 32, 120]⟩ : ByteArray) = some true) := ⟨by decide +kernel⟩
  have C5 : Aside0 (quoinlaw16_bad.f (⟨#[37, 117, 112, 32, 40, 32, 49, 32, 41]⟩ : ByteArray) = some true) := ⟨by decide +kernel⟩
  have C6 : Aside0 (expr_Check.f 40 (⟨#[]⟩ : ByteArray) (⟨#[120]⟩ : ByteArray) 0 0 = some 8) := ⟨by decide +kernel⟩
  clear a1 a2 b1 b2 b3
  go_enter Tryd.func6, Tryd.ntmps6
  go_wp2_with (first
    | (go_at_call 18; (with_reducible refine (lex_Tokens.calls (⟨#[37, 108, 111, 32, 40, 32, 120, 32, 43, 32, 52, 32, 41, 32, 40]⟩ : ByteArray) l1 0 _ HE.out A1.out).mono ?_); rintro e w1 ⟨v, rfl, hr, hb⟩; have HB1 := Aside0.mk hb; obtain ⟨P1, q1, rfl⟩ := Kd.R_slice hr; have HC1 := Aside0.mk (Kd.R_reads' hr); clear hr hb)
    | (go_at_call 15; have hT1 := Lib.tabBelow_of_tabIs HT.out _ HB1.out; (with_reducible refine (expr_Parse.calls P1 q1 l1 0 _ _ _ _ _ _ _ HC1.out.2.2 HC1.out.2.1 hT1 (HD.out.below HB1.out) (HM.out.below HB1.out) B1.out).mono ?_); clear hT1; rintro e w2 ⟨rfl, hb⟩; have HB2 := Aside0.mk (below_step HB1.out hb); clear hb)
    | ((with_reducible refine gate_dst (N := 3) rfl ?_); refine box_event ?hg (N := 3) ?hd (cs := #[.string (⟨#[]⟩ : ByteArray), .string (⟨#[]⟩ : ByteArray), .int .i64 0, .int .u8 0]) (t := 23) ?hr ?_; (case hd => rfl); (case hg => rfl); (case hr => first | (go_simp; done) | (go_simp; rfl)); intro g3 hg w3 hbox hb; have BK3 := Aside0.mk hbox; have G3 : Aside0 (w.heap.size ≤ g3) := ⟨by rw [hg]; exact below_size HB2.out⟩; have HB3 := Aside0.mk (below_step HB2.out hb); have c0 : w3.cell? ⟨g3, 0, none⟩ = some (.string (⟨#[]⟩ : ByteArray)) := (blk_cell hbox 0).trans rfl; have c1 : w3.cell? ⟨g3, 1, none⟩ = some (.string (⟨#[]⟩ : ByteArray)) := (blk_cell hbox 1).trans rfl; have c2 : w3.cell? ⟨g3, 2, none⟩ = some (.int .i64 0) := (blk_cell hbox 2).trans rfl; have c3 : w3.cell? ⟨g3, 3, none⟩ = some (.int .u8 0) := (blk_cell hbox 3).trans rfl; have f0 := blk_frozen hbox 0; have f1 := blk_frozen hbox 1; have f2 := blk_frozen hbox 2; have f3 := blk_frozen hbox 3; clear hb hbox hg)
    | (go_at_call 18; (with_reducible refine (lex_Tokens.calls (⟨#[120, 32, 121]⟩ : ByteArray) l2 0 _ (HE.out.below (put4_below HB3.out G3.out)) A2.out).mono ?_); rintro e w4 ⟨v, rfl, hr, hb⟩; clear c0 c1 c2 c3 f0 f1 f2 f3; have BX3 := Aside0.mk (blk_below (put4_blk BK3.out) hb); have HB4 := Aside0.mk (below_step (put4_below HB3.out G3.out) hb); obtain ⟨P2, q2, rfl⟩ := Kd.R_slice hr; have HC2 := Aside0.mk (Kd.R_reads' hr); clear hr hb)
    | (go_at_call 15; have hT1 := Lib.tabBelow_of_tabIs HT.out _ HB4.out; (with_reducible refine (expr_Parse.calls P2 q2 l2 0 _ _ _ _ _ _ _ HC2.out.2.2 HC2.out.2.1 hT1 (HD.out.below HB4.out) (HM.out.below HB4.out) B2.out).mono ?_); clear hT1; rintro e w5 ⟨rfl, hb⟩; have HK5 := Aside0.mk hb; clear hb)
    | ((with_reducible refine gate_dst (N := 8) rfl ?_); refine box_event ?hg (N := 8) ?hd (cs := #[.string (⟨#[]⟩ : ByteArray), .string (⟨#[]⟩ : ByteArray), .int .i64 0, .int .u8 0]) (t := 23) ?hr ?_; (case hd => rfl); (case hg => rfl); (case hr => first | (go_simp; done) | (go_simp; rfl)); intro g8 hg w6 hbox hb; have BK8 := Aside0.mk hbox; have G8 : Aside0 (w.heap.size ≤ g8) := ⟨by rw [hg]; exact below_size (below_step HB4.out HK5.out)⟩; have HK6 := Aside0.mk (below_step HK5.out hb); have L8 : Aside0 (w4.heap.size ≤ g8) := ⟨by rw [hg]; exact below_size HK5.out⟩; have c0 : w6.cell? ⟨g8, 0, none⟩ = some (.string (⟨#[]⟩ : ByteArray)) := (blk_cell hbox 0).trans rfl; have f0 := blk_frozen hbox 0; have c1 : w6.cell? ⟨g8, 1, none⟩ = some (.string (⟨#[]⟩ : ByteArray)) := (blk_cell hbox 1).trans rfl; have f1 := blk_frozen hbox 1; have c2 : w6.cell? ⟨g8, 2, none⟩ = some (.int .i64 0) := (blk_cell hbox 2).trans rfl; have f2 := blk_frozen hbox 2; have c3 : w6.cell? ⟨g8, 3, none⟩ = some (.int .u8 0) := (blk_cell hbox 3).trans rfl; have f3 := blk_frozen hbox 3;  clear hb hbox hg)
    | (go_at_call 15; have hT1 := Lib.tabBelow_of_tabIs HT.out _ (show Below w.heap.size w ((((w6.setCell ⟨g8, 0, none⟩ (.string (⟨#[120]⟩ : ByteArray))).setCell ⟨g8, 1, none⟩ (.string (⟨#[]⟩ : ByteArray))).setCell ⟨g8, 2, none⟩ (.int .i64 0)).setCell ⟨g8, 3, none⟩ (.int .u8 0)) from below_step HB4.out (put4_below HK6.out L8.out)); (with_reducible refine (expr_Parse.calls P2 q2 l2 3 _ _ _ _ _ _ _ (Kd.C_below HC2.out.2.2 (put4_below HK6.out L8.out)) HC2.out.2.1 hT1 (HD.out.below (show Below w.heap.size w ((((w6.setCell ⟨g8, 0, none⟩ (.string (⟨#[120]⟩ : ByteArray))).setCell ⟨g8, 1, none⟩ (.string (⟨#[]⟩ : ByteArray))).setCell ⟨g8, 2, none⟩ (.int .i64 0)).setCell ⟨g8, 3, none⟩ (.int .u8 0)) from below_step HB4.out (put4_below HK6.out L8.out))) (HM.out.below (show Below w.heap.size w ((((w6.setCell ⟨g8, 0, none⟩ (.string (⟨#[120]⟩ : ByteArray))).setCell ⟨g8, 1, none⟩ (.string (⟨#[]⟩ : ByteArray))).setCell ⟨g8, 2, none⟩ (.int .i64 0)).setCell ⟨g8, 3, none⟩ (.int .u8 0)) from below_step HB4.out (put4_below HK6.out L8.out))) B3.out).mono ?_); clear hT1; rintro e w7 ⟨rfl, hb⟩; clear c0 c1 c2 c3 f0 f1 f2 f3; have BX8 := Aside0.mk (blk_below (put4_blk BK8.out) hb); have HK7 := Aside0.mk (below_step (put4_below HK6.out L8.out) hb); clear hb)
    | ((with_reducible refine gate_dst (N := 11) rfl ?_); refine box_event ?hg (N := 11) ?hd (cs := #[.string (⟨#[]⟩ : ByteArray), .string (⟨#[]⟩ : ByteArray), .int .i64 0, .int .u8 0]) (t := 23) ?hr ?_; (case hd => rfl); (case hg => rfl); (case hr => first | (go_simp; done) | (go_simp; rfl)); intro g11 hg w8 hbox hb; have BK11 := Aside0.mk hbox; have G11 : Aside0 (w.heap.size ≤ g11) := ⟨by rw [hg]; exact below_size (below_step HB4.out HK7.out)⟩; have HN8 := Aside0.mk hb; have L11 : Aside0 (w7.heap.size ≤ g11) := ⟨by rw [hg]; exact Nat.le_refl _⟩; have c0 : w8.cell? ⟨g11, 0, none⟩ = some (.string (⟨#[]⟩ : ByteArray)) := (blk_cell hbox 0).trans rfl; have f0 := blk_frozen hbox 0; have c1 : w8.cell? ⟨g11, 1, none⟩ = some (.string (⟨#[]⟩ : ByteArray)) := (blk_cell hbox 1).trans rfl; have f1 := blk_frozen hbox 1; have c2 : w8.cell? ⟨g11, 2, none⟩ = some (.int .i64 0) := (blk_cell hbox 2).trans rfl; have f2 := blk_frozen hbox 2; have c3 : w8.cell? ⟨g11, 3, none⟩ = some (.int .u8 0) := (blk_cell hbox 3).trans rfl; have f3 := blk_frozen hbox 3;  clear hb hbox hg)
    | (go_at_call 17; have hT1 := Lib.tabBelow_of_tabIs HT.out _ (show Below w.heap.size w ((((w8.setCell ⟨g11, 0, none⟩ (.string (⟨#[]⟩ : ByteArray))).setCell ⟨g11, 1, none⟩ (.string (⟨#[]⟩ : ByteArray))).setCell ⟨g11, 2, none⟩ (.int .i64 0)).setCell ⟨g11, 3, none⟩ (.int .u8 0)) from below_step HB4.out (below_step HK7.out (put4_below HN8.out L11.out))); (with_reducible refine (quoinlaw16_alive.calls true _ hT1 (HD.out.below (show Below w.heap.size w ((((w8.setCell ⟨g11, 0, none⟩ (.string (⟨#[]⟩ : ByteArray))).setCell ⟨g11, 1, none⟩ (.string (⟨#[]⟩ : ByteArray))).setCell ⟨g11, 2, none⟩ (.int .i64 0)).setCell ⟨g11, 3, none⟩ (.int .u8 0)) from below_step HB4.out (below_step HK7.out (put4_below HN8.out L11.out)))) (HE.out.below (show Below w.heap.size w ((((w8.setCell ⟨g11, 0, none⟩ (.string (⟨#[]⟩ : ByteArray))).setCell ⟨g11, 1, none⟩ (.string (⟨#[]⟩ : ByteArray))).setCell ⟨g11, 2, none⟩ (.int .i64 0)).setCell ⟨g11, 3, none⟩ (.int .u8 0)) from below_step HB4.out (below_step HK7.out (put4_below HN8.out L11.out)))) (HM.out.below (show Below w.heap.size w ((((w8.setCell ⟨g11, 0, none⟩ (.string (⟨#[]⟩ : ByteArray))).setCell ⟨g11, 1, none⟩ (.string (⟨#[]⟩ : ByteArray))).setCell ⟨g11, 2, none⟩ (.int .i64 0)).setCell ⟨g11, 3, none⟩ (.int .u8 0)) from below_step HB4.out (below_step HK7.out (put4_below HN8.out L11.out)))) AL.out).mono ?_); clear hT1; rintro e w9 ⟨rfl, hb⟩; clear c0 c1 c2 c3 f0 f1 f2 f3; have HN9 := Aside0.mk (below_step (put4_below HN8.out L11.out) hb); have HB := Aside0.mk (below_step HB4.out (below_step HK7.out HN9.out)); have E8 := blk_below BX8.out HN9.out; have E3 := blk_below BX3.out (below_step HK7.out HN9.out); have x3_0 : w9.cell? ⟨g3, 0, none⟩ = some (.string (⟨#[120]⟩ : ByteArray)) := (blk_cell E3 0).trans rfl; have x3_1 : w9.cell? ⟨g3, 1, none⟩ = some (.string (⟨#[]⟩ : ByteArray)) := (blk_cell E3 1).trans rfl; have x3_2 : w9.cell? ⟨g3, 2, none⟩ = some (.int .i64 4) := (blk_cell E3 2).trans rfl; have x3_3 : w9.cell? ⟨g3, 3, none⟩ = some (.int .u8 2) := (blk_cell E3 3).trans rfl; have x8_0 : w9.cell? ⟨g8, 0, none⟩ = some (.string (⟨#[120]⟩ : ByteArray)) := (blk_cell E8 0).trans rfl; have x8_1 : w9.cell? ⟨g8, 1, none⟩ = some (.string (⟨#[]⟩ : ByteArray)) := (blk_cell E8 1).trans rfl; have x8_2 : w9.cell? ⟨g8, 2, none⟩ = some (.int .i64 0) := (blk_cell E8 2).trans rfl; have x8_3 : w9.cell? ⟨g8, 3, none⟩ = some (.int .u8 0) := (blk_cell E8 3).trans rfl; clear hb E3 E8)
    | (go_at_call 19; have hT1 := Lib.tabBelow_of_tabIs HT.out _ HB.out; (with_reducible refine (quoinlaw16_bad.calls (⟨#[]⟩ : ByteArray) true _ hT1 (HD.out.below HB.out) (HE.out.below HB.out) (HM.out.below HB.out) C1.out).mono ?_); clear hT1; rintro e w9 ⟨rfl, hb⟩; have HB2 := Aside0.mk (below_step HB.out hb); clear HB; have HB := HB2; clear HB2 hb)
    | (go_at_call 19; have hT1 := Lib.tabBelow_of_tabIs HT.out _ HB.out; (with_reducible refine (quoinlaw16_bad.calls (⟨#[43, 32, 43]⟩ : ByteArray) true _ hT1 (HD.out.below HB.out) (HE.out.below HB.out) (HM.out.below HB.out) C2.out).mono ?_); clear hT1; rintro e w9 ⟨rfl, hb⟩; have HB2 := Aside0.mk (below_step HB.out hb); clear HB; have HB := HB2; clear HB2 hb)
    | (go_at_call 19; have hT1 := Lib.tabBelow_of_tabIs HT.out _ HB.out; (with_reducible refine (quoinlaw16_bad.calls (⟨#[120, 32, 43, 32, 122]⟩ : ByteArray) true _ hT1 (HD.out.below HB.out) (HE.out.below HB.out) (HM.out.below HB.out) C3.out).mono ?_); clear hT1; rintro e w9 ⟨rfl, hb⟩; have HB2 := Aside0.mk (below_step HB.out hb); clear HB; have HB := HB2; clear HB2 hb)
    | (go_at_call 19; have hT1 := Lib.tabBelow_of_tabIs HT.out _ HB.out; (with_reducible refine (quoinlaw16_bad.calls (⟨#[45, 32, 120]⟩ : ByteArray) true _ hT1 (HD.out.below HB.out) (HE.out.below HB.out) (HM.out.below HB.out) C4.out).mono ?_); clear hT1; rintro e w9 ⟨rfl, hb⟩; have HB2 := Aside0.mk (below_step HB.out hb); clear HB; have HB := HB2; clear HB2 hb)
    | (go_at_call 19; have hT1 := Lib.tabBelow_of_tabIs HT.out _ HB.out; (with_reducible refine (quoinlaw16_bad.calls (⟨#[37, 117, 112, 32, 40, 32, 49, 32, 41]⟩ : ByteArray) true _ hT1 (HD.out.below HB.out) (HE.out.below HB.out) (HM.out.below HB.out) C5.out).mono ?_); clear hT1; rintro e w9 ⟨rfl, hb⟩; have HB2 := Aside0.mk (below_step HB.out hb); clear HB; have HB := HB2; clear HB2 hb)
    | (go_at_call 12; have hT1 := Lib.tabBelow_of_tabIs HT.out _ HB.out; (with_reducible refine (expr_Check.calls 40 (⟨#[]⟩ : ByteArray) (⟨#[120]⟩ : ByteArray) 0 0 8 _ hT1 (HD.out.below HB.out) C6.out).mono ?_); clear hT1; rintro e w9 ⟨rfl, hb⟩; have HB2 := Aside0.mk (below_step HB.out hb); clear HB; have HB := HB2; clear HB2 hb))
  go_ret
  exact ⟨rfl, HB.out⟩

/-- THE ONE PURE STATEMENT of quoinlaw16_ExprNames: yours. -/
def quoinlaw16_ExprNames.Pure : Prop := ∃ k, quoinlaw16_ExprNames.f k  = some true
theorem quoinlaw16_ExprNames.walk (P : quoinlaw16_ExprNames.Pure)  (w : World) (hT : Lib.TabIs Tryd.prog w "internal/strconv.uint64pow10" .u64 Lib.pow10Tab) (hD : LexW.LexD w) (hE : LexW.LexE w) (hM : ExW.ModsAt w) :
  Calls Tryd.prog 6 #[] w fun e w' => e = .returned (.bool true) ∧ Below w.heap.size w w' := by
 obtain ⟨k, h⟩ := P  
 refine (quoinlaw16_ExprNames.calls k  true w hT hD hE hM h).mono ?_
 rintro e w' ⟨rfl, hd⟩
 exact ⟨rfl, hd⟩

end Go.Proofs.YtgihgmniijhfoaaDoor.P
