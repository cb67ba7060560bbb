/- Texts of this seat in one (Px25), what nothing speaks of left out: by pack.py, a program of this session. -/
import Derived.Test.YtbfndlfemhidaaaGreatDoorPx0
import Derived.Test.YtbfndlfemhidaaaGreatDoorPx9
import Derived.Test.YtbfndlfemhidaaaGreatDoorPx13
import Derived.Test.YtbfndlfemhidaaaGreatDoorPx14
namespace Go.Proofs.YtbfndlfemhidaaaGreatDoor.P
open Go.RowKit Go.Proofs.YtbfndlfemhidaaaGreatDoorW.PrintWords Go.Proofs.YtbfndlfemhidaaaGreatDoorW.PrintLast Go.Proofs.YtbfndlfemhidaaaGreatDoorW.PrintMore
attribute [local go_sem] max2_int min2_int max_two min_two max_three min_three max_four min_four   -- for this text's walks alone
set_option linter.unusedVariables false
set_option linter.unusedSimpArgs false

def quoinlaw17_bad.f (a0 : ByteArray) (a1 : Int) : Option (Bool) := (line_Read.f a0).bind fun bt584 => (some (bt584.2.2.2 == a1))
set_option maxHeartbeats 8000000 in
set_option maxRecDepth 100000 in
theorem quoinlaw17_bad.calls (a0 : ByteArray) (a1 : Int) (r : Bool) (w : World) (hT : Lib.TabIs Tryz.prog w "internal/strconv.uint64pow10" .u64 Lib.pow10Tab) (hD : LexW.LexD w) (hE : LexW.LexE w) (hM : ExW.ModsAt w) (hG : LiW.RegsAt w) (h : quoinlaw17_bad.f a0 a1 = some r) :
  Calls Tryz.prog 16 #[.string a0, .int .i64 a1] w fun e w' => e = .returned (.bool r) ∧ Below w.heap.size w w' := by
 have hu25 := Tryz.underlying25
 have HT := Aside0.mk hT
 clear hT
 have HD_ := Aside0.mk hD
 clear hD
 have HE_ := Aside0.mk hE
 clear hE
 have HM_ := Aside0.mk hM
 clear hM
 have HG_ := Aside0.mk hG
 clear hG
 have HB := Aside0.mk (Below.refl w.heap.size w)
 have H : ((line_Read.f a0).bind fun bt584 => (some (bt584.2.2.2 == a1))) = some r := h
 clear h
 replace H := Option.bind_eq_some_iff.mp H
 obtain ⟨⟨t584, t587, t588, t591⟩, A30, H⟩ := H
 replace H : (some (t591 == a1)) = some r := H
 have A3 := Aside0.mk A30
 clear A30
 obtain rfl := Option.some.inj H
 go_enter Tryz.func16, Tryz.ntmps16
 go_wp2_with (first | ((with_reducible refine gate_callee (f := 18) rfl ?_); refine goesL_ (some 9) rfl rfl Tryz.func18 (by kernel_rfl) rfl #[.string a0] rfl (by (try simp only [List.map_toArray, List.map_cons, List.map_nil]); first | done | rfl | (simp only [List.length_drop, List.length_take]; rfl)) ?_; (with_reducible refine (line_Read.calls a0 t584 t587 t588 t591 _ ?side1 ?side2 ?side3 ?side4 ?side5 A3.out).mono ?_); (case side1 => exact Lib.tabBelow_of_tabIs HT.out _ (by repeat (first | (with_reducible first | exact HB.out | apply below_alloc | apply pw_below_drewN | apply below_drew1) | exact HB.out))); (case side2 => exact HD_.out.below (by repeat (first | (with_reducible first | exact HB.out | apply below_alloc | apply pw_below_drewN | apply below_drew1) | exact HB.out))); (case side3 => exact HE_.out.below (by repeat (first | (with_reducible first | exact HB.out | apply below_alloc | apply pw_below_drewN | apply below_drew1) | exact HB.out))); (case side4 => exact HM_.out.below (by repeat (first | (with_reducible first | exact HB.out | apply below_alloc | apply pw_below_drewN | apply below_drew1) | exact HB.out))); (case side5 => exact HG_.out.below (by repeat (first | (with_reducible first | exact HB.out | apply below_alloc | apply pw_below_drewN | apply below_drew1) | exact HB.out))); rintro e w4 ⟨v585, v589, rfl, ho0, ho1, hb⟩; refine ⟨_, rfl, ?_⟩; have n0_ := Aside0.mk (Kd.R_lower ho0 (below_size (by repeat (first | (with_reducible first | exact HB.out | apply below_alloc | apply pw_below_drewN | apply below_drew1) | exact HB.out)))); have n1_ := Aside0.mk (Kd.R_lower ho1 (below_size (by repeat (first | (with_reducible first | exact HB.out | apply below_alloc | apply pw_below_drewN | apply below_drew1) | exact HB.out)))); have n2_ := Aside0.mk (below_step (by repeat (first | (with_reducible first | exact HB.out | apply below_alloc | apply pw_below_drewN | apply below_drew1) | exact HB.out)) hb); clear HB; have HO586 := n0_; have HO590 := n1_; have HB := n2_; clear n0_ n1_ n2_; (try clear hb); (try clear hb2); (try clear hk); (try clear hi); (try clear ho0); (try clear ho1)) | ((with_reducible refine gate_dst (N := 5) rfl ?_); refine box_event ?hg (N := 5) ?hd (cs := #[.slice none 0 0, .string (⟨#[]⟩ : ByteArray), .slice none 0 0]) (t := 25) ?hr ?_; (case hd => rfl); (case hg => rfl); (case hr => first | (go_simp; done) | (go_simp; rfl)); intro gb592 hg w5 hbox hb; have n0_ := Aside0.mk (Kd.R_below (by (with_reducible repeat (first | apply Kd.R_alloc | apply Kd.R_drewN | apply Kd.R_drew)); exact HO586.out) hb); have n1_ := Aside0.mk (Kd.R_below (by (with_reducible repeat (first | apply Kd.R_alloc | apply Kd.R_drewN | apply Kd.R_drew)); exact HO590.out) hb); have n2_ := Aside0.mk (below_step (by repeat (first | (with_reducible first | exact HB.out | apply below_alloc | apply pw_below_drewN | apply below_drew1) | exact HB.out)) hb); have n3_ := Aside0.mk (hbox); have n4_ := Aside0.mk ((by rw [hg]; exact (below_size (by repeat (first | (with_reducible first | exact HB.out | apply below_alloc | apply pw_below_drewN | apply below_drew1) | exact HB.out))) : w.heap.size ≤ gb592)); have n5_ := Aside0.mk ((by rw [hg]; exact (below_size (by repeat (first | (with_reducible first | exact HB.out | apply below_alloc | apply pw_below_drewN | apply below_drew1) | exact HB.out))) : w.heap.size ≤ gb592)); clear HO586; clear HO590; clear HB; have HO586 := n0_; have HO590 := n1_; have HB := n2_; have BK592 := n3_; have GW592 := n4_; have GE592 := n5_; clear n0_ n1_ n2_ n3_ n4_ n5_; clear hb hbox hg; obtain ⟨Ao6, co6, eo6⟩ := Kd.R_slice HO586.out; subst eo6; have hcz7_0 : w5.cell? ⟨gb592, 0, none⟩ = some (.slice none 0 0) := (blk_cell BK592.out 0).trans rfl; have hcz7_1 : w5.cell? ⟨gb592, 1, none⟩ = some (.string (⟨#[]⟩ : ByteArray)) := (blk_cell BK592.out 1).trans rfl; have hcz7_2 : w5.cell? ⟨gb592, 2, none⟩ = some (.slice none 0 0) := (blk_cell BK592.out 2).trans rfl; have hfz7_0 := blk_frozen BK592.out 0; have hfz7_1 := blk_frozen BK592.out 1; have hfz7_2 := blk_frozen BK592.out 2; obtain ⟨Ao8, co8, eo8⟩ := Kd.R_slice HO590.out; subst eo8))
 go_ret
 exact ⟨by first | rfl | (simp [errW_none, errW_some] <;> rfl) | (simp [*, errW_none, errW_some] <;> rfl), by repeat (first | (with_reducible first | exact HB.out | apply below_alloc | apply pw_below_drewN | apply below_drew1 | refine below_set ?_ GE592.out) | exact HB.out)⟩

def quoinlaw17_LineNames.f (k : Nat) : Option (Bool) := some true
def names_1 : List S40 := [(⟨3, 5, ⟨(⟨#[]⟩ : ByteArray), (⟨#[]⟩ : ByteArray), 0, 0⟩, (⟨#[]⟩ : ByteArray)⟩ : S40)]
def names_2 : List S40 := [(⟨1, 8, ⟨(⟨#[]⟩ : ByteArray), (⟨#[]⟩ : ByteArray), 0, 0⟩, (⟨#[]⟩ : ByteArray)⟩ : S40), (⟨3, 31, ⟨(⟨#[]⟩ : ByteArray), (⟨#[]⟩ : ByteArray), (-8), 0⟩, (⟨#[]⟩ : ByteArray)⟩ : S40)]
def names_3 : List S40 := [(⟨1, 0, ⟨(⟨#[]⟩ : ByteArray), (⟨#[]⟩ : ByteArray), 0, 0⟩, (⟨#[]⟩ : ByteArray)⟩ : S40)]
theorem names_is1 (P : Option Addr) (q : Nat) (w : World) (hC : Kd.C k40 w P names_1.length names_1) (hq : names_1.length ≤ q) (hT : Lib.TabIs Tryz.prog w "internal/strconv.uint64pow10" .u64 Lib.pow10Tab) (hD : LexW.LexD w) (hE : LexW.LexE w) (hM : ExW.ModsAt w) (hG : LiW.RegsAt w) :
    Calls Tryz.prog 15 #[.string (⟨#[106, 114, 32, 40, 120, 53, 41]⟩ : ByteArray), .agg #[.slice none 0 0, .string (⟨#[106, 114]⟩ : ByteArray), .slice P names_1.length q]] w fun e w' => e = .returned (.bool true) ∧ Below w.heap.size w w' :=
  quoinlaw17_is.calls 40 _ none 0 [] _ P q names_1 true w (Kd.C_nil _ _) (Nat.le_refl _) hC hq hT hD hE hM hG (by decide +kernel)
theorem names_is2 (P : Option Addr) (q : Nat) (w : World) (hC : Kd.C k40 w P names_2.length names_2) (hq : names_2.length ≤ q) (hT : Lib.TabIs Tryz.prog w "internal/strconv.uint64pow10" .u64 Lib.pow10Tab) (hD : LexW.LexD w) (hE : LexW.LexE w) (hM : ExW.ModsAt w) (hG : LiW.RegsAt w) :
    Calls Tryz.prog 15 #[.string (⟨#[115, 100, 32, 102, 112, 44, 32, 45, 56, 40, 120, 51, 49, 41]⟩ : ByteArray), .agg #[.slice none 0 0, .string (⟨#[115, 100]⟩ : ByteArray), .slice P names_2.length q]] w fun e w' => e = .returned (.bool true) ∧ Below w.heap.size w w' :=
  quoinlaw17_is.calls 40 _ none 0 [] _ P q names_2 true w (Kd.C_nil _ _) (Nat.le_refl _) hC hq hT hD hE hM hG (by decide +kernel)
theorem names_chk (P : Option Addr) (q : Nat) (w : World) (hC : Kd.C k40 w P names_3.length names_3) (hq : names_3.length ≤ q) (hT : Lib.TabIs Tryz.prog w "internal/strconv.uint64pow10" .u64 Lib.pow10Tab) (hD : LexW.LexD w) (hE : LexW.LexE w) (hM : ExW.ModsAt w) (hG : LiW.RegsAt w) :
    Calls Tryz.prog 11 #[.agg #[.slice none 0 0, .string (⟨#[]⟩ : ByteArray), .slice P names_3.length q]] w fun e w' => e = .returned (.int .i64 8) ∧ Below w.heap.size w w' :=
  line_Check.calls 40 none 0 [] _ P q names_3 8 w (Kd.C_nil _ _) (Nat.le_refl _) hC hq hT hD hE hM hG (by decide +kernel)
set_option maxHeartbeats 8000000 in
set_option maxRecDepth 100000 in
theorem quoinlaw17_LineNames.calls (k : Nat) (r : Bool) (w : World) (hT : Lib.TabIs Tryz.prog w "internal/strconv.uint64pow10" .u64 Lib.pow10Tab) (hD : LexW.LexD w) (hE : LexW.LexE w) (hM : ExW.ModsAt w) (hG : LiW.RegsAt w) (h : quoinlaw17_LineNames.f k = some r) :
    Calls Tryz.prog 4 #[] w fun e w' => e = .returned (.bool r) ∧ Below w.heap.size w w' := by
  obtain rfl := Option.some.inj h
  have HT := Aside0.mk hT
  have HD := Aside0.mk hD
  have HE := Aside0.mk hE
  have HM := Aside0.mk hM
  have HG := Aside0.mk hG
  clear hT hD hE hM hG h
  have HB := Aside0.mk (Below.refl w.heap.size w)
  have B0 : Aside0 (quoinlaw17_bad.f (⟨#[97, 32, 98, 32, 99]⟩ : ByteArray) 170 = some true) := ⟨by decide +kernel⟩
  have B1 : Aside0 (quoinlaw17_bad.f (⟨#[53]⟩ : ByteArray) 170 = some true) := ⟨by decide +kernel⟩
  have B2 : Aside0 (quoinlaw17_bad.f (⟨#[108, 119, 32, 97, 48, 32, 97, 49]⟩ : ByteArray) 170 = some true) := ⟨by decide +kernel⟩
  have B3 : Aside0 (quoinlaw17_bad.f (⟨#[108, 119, 32, 52, 40, 53, 41]⟩ : ByteArray) 170 = some true) := ⟨by decide +kernel⟩
  have B4 : Aside0 (quoinlaw17_bad.f (⟨#[37, 104, 105, 58, 32, 120]⟩ : ByteArray) 170 = some true) := ⟨by decide +kernel⟩
  have B5 : Aside0 (quoinlaw17_bad.f (⟨#[108, 119, 32, 97, 48, 44]⟩ : ByteArray) 160 = some true) := ⟨by decide +kernel⟩
  go_enter Tryz.func4, Tryz.ntmps4
  go_wp2_with (first
    | ((with_reducible refine gate_dst (N := 4) rfl ?_); (try (refine gate_guard (by rfl) ?_; dsimp only)); refine Kd.R_lit k40 _ 40 ?hg (N := 4) ?hd (xs := names_1) (inner := [.int .u8 3, .int .i64 5, .string (⟨#[]⟩ : ByteArray), .string (⟨#[]⟩ : ByteArray), .int .i64 0, .int .u8 0, .string (⟨#[]⟩ : ByteArray)]) (ok := fun _ => True) (okp := fun _ => True) ?hr ?hp (fun _ hk => hk) trivial (Below.refl _ _) (Nat.le_refl _) (by decide) ?_; (case hd => rfl); (case hg => rfl); (case hr => first | (go_simp; done) | (go_simp; rfl)); (case hp => exact Reps.c7 (show Kd.M k40 _ _ _ (⟨3, 5, ⟨(⟨#[]⟩ : ByteArray), (⟨#[]⟩ : ByteArray), 0, 0⟩, (⟨#[]⟩ : ByteArray)⟩ : S40) [.int .u8 3, .int .i64 5, .string (⟨#[]⟩ : ByteArray), .string (⟨#[]⟩ : ByteArray), .int .i64 0, .int .u8 0, .string (⟨#[]⟩ : ByteArray)] from k40_mkM _ _ _ (⟨3, 5, ⟨(⟨#[]⟩ : ByteArray), (⟨#[]⟩ : ByteArray), 0, 0⟩, (⟨#[]⟩ : ByteArray)⟩ : S40)) (Reps.none _ _)); intro v w1 ho hb hg_ hnew_; obtain ⟨Pa, qa, hv, hq, hC⟩ := Kd.R_reads ho; subst hv; have HCa := Aside0.mk hC; have HQa := Aside0.mk hq; have HB2 := Aside0.mk (below_step HB.out hb); clear HB; have HB := HB2; clear HB2; clear ho hg_ hnew_ hC hq)
    | (go_at_call 15; have hT1 := Lib.tabBelow_of_tabIs HT.out _ HB.out; (with_reducible refine (names_is1 Pa qa _ HCa.out HQa.out hT1 (HD.out.below HB.out) (HE.out.below HB.out) (HM.out.below HB.out) (HG.out.below HB.out)).mono ?_); clear hT1; rintro e w9 ⟨rfl, hb⟩; have HB2 := Aside0.mk (below_step HB.out hb); clear HB; have HB := HB2; clear HB2 hb)
    | ((with_reducible refine gate_dst (N := 11) rfl ?_); (try (refine gate_guard (by rfl) ?_; dsimp only)); refine Kd.R_lit k40 _ 40 ?hg (N := 11) ?hd (xs := names_2) (inner := [.int .u8 1, .int .i64 8, .string (⟨#[]⟩ : ByteArray), .string (⟨#[]⟩ : ByteArray), .int .i64 0, .int .u8 0, .string (⟨#[]⟩ : ByteArray), .int .u8 3, .int .i64 31, .string (⟨#[]⟩ : ByteArray), .string (⟨#[]⟩ : ByteArray), .int .i64 (-8), .int .u8 0, .string (⟨#[]⟩ : ByteArray)]) (ok := fun _ => True) (okp := fun _ => True) ?hr ?hp (fun _ hk => hk) trivial (Below.refl _ _) (Nat.le_refl _) (by decide) ?_; (case hd => rfl); (case hg => rfl); (case hr => first | (go_simp; done) | (go_simp; rfl)); (case hp => exact Reps.c7 (show Kd.M k40 _ _ _ (⟨1, 8, ⟨(⟨#[]⟩ : ByteArray), (⟨#[]⟩ : ByteArray), 0, 0⟩, (⟨#[]⟩ : ByteArray)⟩ : S40) [.int .u8 1, .int .i64 8, .string (⟨#[]⟩ : ByteArray), .string (⟨#[]⟩ : ByteArray), .int .i64 0, .int .u8 0, .string (⟨#[]⟩ : ByteArray)] from k40_mkM _ _ _ (⟨1, 8, ⟨(⟨#[]⟩ : ByteArray), (⟨#[]⟩ : ByteArray), 0, 0⟩, (⟨#[]⟩ : ByteArray)⟩ : S40)) (Reps.c7 (show Kd.M k40 _ _ _ (⟨3, 31, ⟨(⟨#[]⟩ : ByteArray), (⟨#[]⟩ : ByteArray), (-8), 0⟩, (⟨#[]⟩ : ByteArray)⟩ : S40) [.int .u8 3, .int .i64 31, .string (⟨#[]⟩ : ByteArray), .string (⟨#[]⟩ : ByteArray), .int .i64 (-8), .int .u8 0, .string (⟨#[]⟩ : ByteArray)] from k40_mkM _ _ _ (⟨3, 31, ⟨(⟨#[]⟩ : ByteArray), (⟨#[]⟩ : ByteArray), (-8), 0⟩, (⟨#[]⟩ : ByteArray)⟩ : S40)) (Reps.none _ _))); intro v w2 ho hb hg_ hnew_; obtain ⟨Pb, qb, hv, hq, hC⟩ := Kd.R_reads ho; subst hv; have HCb := Aside0.mk hC; have HQb := Aside0.mk hq; have HB2 := Aside0.mk (below_step HB.out hb); clear HB; have HB := HB2; clear HB2; clear ho hg_ hnew_ hC hq)
    | (go_at_call 15; have hT1 := Lib.tabBelow_of_tabIs HT.out _ HB.out; (with_reducible refine (names_is2 Pb qb _ HCb.out HQb.out hT1 (HD.out.below HB.out) (HE.out.below HB.out) (HM.out.below HB.out) (HG.out.below HB.out)).mono ?_); clear hT1; rintro e w9 ⟨rfl, hb⟩; have HB2 := Aside0.mk (below_step HB.out hb); clear HB; have HB := HB2; clear HB2 hb)
    | (go_at_call 16; have hT1 := Lib.tabBelow_of_tabIs HT.out _ HB.out; (with_reducible refine (quoinlaw17_bad.calls (⟨#[97, 32, 98, 32, 99]⟩ : ByteArray) 170 true _ hT1 (HD.out.below HB.out) (HE.out.below HB.out) (HM.out.below HB.out) (HG.out.below HB.out) B0.out).mono ?_); clear hT1; rintro e w9 ⟨rfl, hb⟩; have HB2 := Aside0.mk (below_step HB.out hb); clear HB; have HB := HB2; clear HB2 hb)
    | (go_at_call 16; have hT1 := Lib.tabBelow_of_tabIs HT.out _ HB.out; (with_reducible refine (quoinlaw17_bad.calls (⟨#[53]⟩ : ByteArray) 170 true _ hT1 (HD.out.below HB.out) (HE.out.below HB.out) (HM.out.below HB.out) (HG.out.below HB.out) B1.out).mono ?_); clear hT1; rintro e w9 ⟨rfl, hb⟩; have HB2 := Aside0.mk (below_step HB.out hb); clear HB; have HB := HB2; clear HB2 hb)
    | (go_at_call 16; have hT1 := Lib.tabBelow_of_tabIs HT.out _ HB.out; (with_reducible refine (quoinlaw17_bad.calls (⟨#[108, 119, 32, 97, 48, 32, 97, 49]⟩ : ByteArray) 170 true _ hT1 (HD.out.below HB.out) (HE.out.below HB.out) (HM.out.below HB.out) (HG.out.below HB.out) B2.out).mono ?_); clear hT1; rintro e w9 ⟨rfl, hb⟩; have HB2 := Aside0.mk (below_step HB.out hb); clear HB; have HB := HB2; clear HB2 hb)
    | (go_at_call 16; have hT1 := Lib.tabBelow_of_tabIs HT.out _ HB.out; (with_reducible refine (quoinlaw17_bad.calls (⟨#[108, 119, 32, 52, 40, 53, 41]⟩ : ByteArray) 170 true _ hT1 (HD.out.below HB.out) (HE.out.below HB.out) (HM.out.below HB.out) (HG.out.below HB.out) B3.out).mono ?_); clear hT1; rintro e w9 ⟨rfl, hb⟩; have HB2 := Aside0.mk (below_step HB.out hb); clear HB; have HB := HB2; clear HB2 hb)
    | (go_at_call 16; have hT1 := Lib.tabBelow_of_tabIs HT.out _ HB.out; (with_reducible refine (quoinlaw17_bad.calls (⟨#[37, 104, 105, 58, 32, 120]⟩ : ByteArray) 170 true _ hT1 (HD.out.below HB.out) (HE.out.below HB.out) (HM.out.below HB.out) (HG.out.below HB.out) B4.out).mono ?_); clear hT1; rintro e w9 ⟨rfl, hb⟩; have HB2 := Aside0.mk (below_step HB.out hb); clear HB; have HB := HB2; clear HB2 hb)
    | (go_at_call 16; have hT1 := Lib.tabBelow_of_tabIs HT.out _ HB.out; (with_reducible refine (quoinlaw17_bad.calls (⟨#[108, 119, 32, 97, 48, 44]⟩ : ByteArray) 160 true _ hT1 (HD.out.below HB.out) (HE.out.below HB.out) (HM.out.below HB.out) (HG.out.below HB.out) B5.out).mono ?_); clear hT1; rintro e w9 ⟨rfl, hb⟩; have HB2 := Aside0.mk (below_step HB.out hb); clear HB; have HB := HB2; clear HB2 hb)
    | (go_at_call 17; have hT1 := Lib.tabBelow_of_tabIs HT.out _ HB.out; (with_reducible refine (quoinlaw17_alive.calls 0 true _ hT1 (HD.out.below HB.out) (HE.out.below HB.out) (HM.out.below HB.out) (HG.out.below HB.out) rfl).mono ?_); clear hT1; rintro e w9 ⟨rfl, hb⟩; have HB2 := Aside0.mk (below_step HB.out hb); clear HB; have HB := HB2; clear HB2 hb)
    | ((with_reducible refine gate_dst (N := 42) rfl ?_); (try (refine gate_guard (by rfl) ?_; dsimp only)); refine Kd.R_lit k40 _ 40 ?hg (N := 42) ?hd (xs := names_3) (inner := [.int .u8 1, .int .i64 0, .string (⟨#[]⟩ : ByteArray), .string (⟨#[]⟩ : ByteArray), .int .i64 0, .int .u8 0, .string (⟨#[]⟩ : ByteArray)]) (ok := fun _ => True) (okp := fun _ => True) ?hr ?hp (fun _ hk => hk) trivial (Below.refl _ _) (Nat.le_refl _) (by decide) ?_; (case hd => rfl); (case hg => rfl); (case hr => first | (go_simp; done) | (go_simp; rfl)); (case hp => exact Reps.c7 (show Kd.M k40 _ _ _ (⟨1, 0, ⟨(⟨#[]⟩ : ByteArray), (⟨#[]⟩ : ByteArray), 0, 0⟩, (⟨#[]⟩ : ByteArray)⟩ : S40) [.int .u8 1, .int .i64 0, .string (⟨#[]⟩ : ByteArray), .string (⟨#[]⟩ : ByteArray), .int .i64 0, .int .u8 0, .string (⟨#[]⟩ : ByteArray)] from k40_mkM _ _ _ (⟨1, 0, ⟨(⟨#[]⟩ : ByteArray), (⟨#[]⟩ : ByteArray), 0, 0⟩, (⟨#[]⟩ : ByteArray)⟩ : S40)) (Reps.none _ _)); intro v w3 ho hb hg_ hnew_; obtain ⟨Pc, qc, hv, hq, hC⟩ := Kd.R_reads ho; subst hv; have HCc := Aside0.mk hC; have HQc := Aside0.mk hq; have HB2 := Aside0.mk (below_step HB.out hb); clear HB; have HB := HB2; clear HB2; clear ho hg_ hnew_ hC hq)
    | (go_at_call 11; have hT1 := Lib.tabBelow_of_tabIs HT.out _ HB.out; (with_reducible refine (names_chk Pc qc _ HCc.out HQc.out hT1 (HD.out.below HB.out) (HE.out.below HB.out) (HM.out.below HB.out) (HG.out.below HB.out)).mono ?_); clear hT1; rintro e w9 ⟨rfl, hb⟩; have HB2 := Aside0.mk (below_step HB.out hb); clear HB; have HB := HB2; clear HB2 hb))
  go_ret
  exact ⟨rfl, HB.out⟩

def quoinlaw17_LineNames.Pure : Prop := ∃ k, quoinlaw17_LineNames.f k  = some true
theorem quoinlaw17_LineNames.walk (P : quoinlaw17_LineNames.Pure)  (w : World) (hT : Lib.TabIs Tryz.prog w "internal/strconv.uint64pow10" .u64 Lib.pow10Tab) (hD : LexW.LexD w) (hE : LexW.LexE w) (hM : ExW.ModsAt w) (hG : LiW.RegsAt w) :
  Calls Tryz.prog 4 #[] w fun e w' => e = .returned (.bool true) ∧ Below w.heap.size w w' := by
 obtain ⟨k, h⟩ := P  
 refine (quoinlaw17_LineNames.calls k  true w hT hD hE hM hG h).mono ?_
 rintro e w' ⟨rfl, hd⟩
 exact ⟨rfl, hd⟩

end Go.Proofs.YtbfndlfemhidaaaGreatDoor.P
