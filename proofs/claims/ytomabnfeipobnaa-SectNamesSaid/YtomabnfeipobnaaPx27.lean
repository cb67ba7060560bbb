-- Written by pext.py, a program of this session, over the kit's print: a function's contract
import Derived.Test.YtomabnfeipobnaaPx0
import Derived.Test.YtomabnfeipobnaaPx4
import Derived.Test.YtomabnfeipobnaaPx6
import Derived.Test.YtomabnfeipobnaaPx12
import Derived.Test.YtomabnfeipobnaaPx18
namespace Go.Proofs.Ytomabnfeipobnaa.P
open Go.RowKit Go.Proofs.YtomabnfeipobnaaW.PrintWords Go.Proofs.YtomabnfeipobnaaW.PrintLast Go.Proofs.YtomabnfeipobnaaW.PrintMore
attribute [local go_sem] max2_int min2_int max_two min_two max_three min_three max_four min_four   -- for this text's walks alone
set_option linter.unusedVariables false
set_option linter.unusedSimpArgs false

/-! ### quoinlaw09_SectNames: function 9 -/
def quoinlaw09_SectNames.l0 : Nat → Int → Int → Int → Int → Int → Int → Int → Int → Int → Int → List Int → Int → Option (Bool)
 | 0, _, _, _, _, _, _, _, _, _, _, _, _ => none
 | k + 1, x1, x2, x4, x5, x6, x7, x8, x9, x10, x12, x13, x14 => if x14 < 64 then (if 0 ≤ x14 then (if x14 < (x13.length : Int) then (quoinlaw09_SectNames.l0 k x1 x2 x4 x5 x6 x7 x8 x9 x10 x12 (x13.set (x14 : Int).toNat 255) (wrap64 (x14 + 1))) else (none)) else (none)) else ((sect_Read.f k x13).bind fun bt446 => ((quoinlaw09_alive.f k).bind fun t458 => (if t458 = true then (if x1 = 1 then (if x2 = 0 then (if x4 = 3 then (if x5 = 1 then (if x6 = 0 then (if x7 = 0 then (if x8 = 0 then (if x9 = 8 then (if x10 = 8 then (if x12 = 3 then (some (bt446.2.2.2.2.2.2.2.2.2.2 == 8)) else (none)) else (none)) else (none)) else (none)) else (none)) else (none)) else (none)) else (none)) else (none)) else (none)) else (none))))
def quoinlaw09_SectNames.f (k : Nat)  : Option (Bool) := (sect_Kind.f (⟨#[46, 116, 101, 120, 116]⟩ : ByteArray)).bind fun bt414 => ((sect_Kind.f (⟨#[46, 98, 115, 115, 120]⟩ : ByteArray)).bind fun bt416 => ((sect_Kind.f (⟨#[46, 116, 101, 120, 116, 46]⟩ : ByteArray)).bind fun bt418 => ((sect_Check.f k (⟨#[46, 100, 97, 116, 97]⟩ : ByteArray) 4 (([1, 2, 3] : List Int)) 0).bind fun t423 => ((sect_Check.f k (⟨#[46, 98, 115, 115]⟩ : ByteArray) 1 ([] : List Int) 9).bind fun t424 => ((sect_Check.f k (⟨#[46, 116, 101, 120, 116]⟩ : ByteArray) 3 ([] : List Int) 0).bind fun t425 => ((sect_Check.f k (⟨#[46, 98, 115, 115]⟩ : ByteArray) 1 (([1] : List Int)) 0).bind fun t429 => ((sect_Read.f k ([] : List Int)).bind fun bt430 => (if 64 ≤ 281474976710656 then (quoinlaw09_SectNames.l0 k bt414.1 bt414.2 bt416.2 bt418.1 bt418.2 t423 t424 t425 t429 bt430.2.2.2.2.2.2.2.2.2.2 (List.replicate 64 0) 0) else (none)))))))))
theorem quoinlaw09_SectNames.mono_l : ∀ k, (∀ y0 y1 y2 y3 y4 y5 y6 y7 y8 y9 y10 y11, LeO (quoinlaw09_SectNames.l0 k y0 y1 y2 y3 y4 y5 y6 y7 y8 y9 y10 y11) (quoinlaw09_SectNames.l0 (k + 1) y0 y1 y2 y3 y4 y5 y6 y7 y8 y9 y10 y11))
 | 0 => fun _ _ _ _ _ _ _ _ _ _ _ _ r h => by simp [quoinlaw09_SectNames.l0] at h
 | k + 1 => by
  have ih0 := quoinlaw09_SectNames.mono_l k
  ·
   intro y0 y1 y2 y3 y4 y5 y6 y7 y8 y9 y10 y11
   unfold quoinlaw09_SectNames.l0
   repeat' first
   | (with_reducible exact ih0 _ _ _ _ _ _ _ _ _ _ _ _)
   | (with_reducible exact quoinlaw09_alive.mono _)
   | (with_reducible exact sect_Check.mono _ _ _ _ _)
   | (with_reducible exact sect_Read.mono _ _)
   | (with_reducible exact LeO.refl _)
   | (with_reducible exact LeO.none _)
   | (with_reducible refine LeO.ite ?_ ?_)
   | (with_reducible refine LeO.bind ?_ (fun _ => ?_))
   | exact ih0 _ _ _ _ _ _ _ _ _ _ _ _
   | exact quoinlaw09_alive.mono _
   | exact sect_Check.mono _ _ _ _ _
   | exact sect_Read.mono _ _
   | exact LeO.none _
   | refine LeO.ite ?_ ?_
   | refine LeO.bind ?_ (fun _ => ?_)
theorem quoinlaw09_SectNames.mono : ∀ k, LeO (quoinlaw09_SectNames.f k ) (quoinlaw09_SectNames.f (k + 1) ) := by
 intro  k
 have ih0 := quoinlaw09_SectNames.mono_l k
 unfold quoinlaw09_SectNames.f
 repeat' first
   | (with_reducible exact ih0 _ _ _ _ _ _ _ _ _ _ _ _)
   | (with_reducible exact quoinlaw09_alive.mono _)
   | (with_reducible exact sect_Check.mono _ _ _ _ _)
   | (with_reducible exact sect_Read.mono _ _)
   | (with_reducible exact LeO.refl _)
   | (with_reducible exact LeO.none _)
   | (with_reducible refine LeO.ite ?_ ?_)
   | (with_reducible refine LeO.bind ?_ (fun _ => ?_))
   | exact ih0 _ _ _ _ _ _ _ _ _ _ _ _
   | exact quoinlaw09_alive.mono _
   | exact sect_Check.mono _ _ _ _ _
   | exact sect_Read.mono _ _
   | exact LeO.none _
   | refine LeO.ite ?_ ?_
   | refine LeO.bind ?_ (fun _ => ?_)
set_option maxHeartbeats 8000000 in
set_option maxRecDepth 100000 in
theorem quoinlaw09_SectNames.calls (k : Nat)  (r : Bool) (w : World) (h : quoinlaw09_SectNames.f k  = some r) :
  Calls Try.prog 9 #[] w fun e w' => e = .returned (.bool r) ∧ Below w.heap.size w w' := by
 have hu36 := Try.underlying36
 have hu23 := Try.underlying23
 have HB := Aside0.mk (Below.refl w.heap.size w)
 have H : ((sect_Kind.f (⟨#[46, 116, 101, 120, 116]⟩ : ByteArray)).bind fun bt414 => ((sect_Kind.f (⟨#[46, 98, 115, 115, 120]⟩ : ByteArray)).bind fun bt416 => ((sect_Kind.f (⟨#[46, 116, 101, 120, 116, 46]⟩ : ByteArray)).bind fun bt418 => ((sect_Check.f k (⟨#[46, 100, 97, 116, 97]⟩ : ByteArray) 4 (([1, 2, 3] : List Int)) 0).bind fun t423 => ((sect_Check.f k (⟨#[46, 98, 115, 115]⟩ : ByteArray) 1 ([] : List Int) 9).bind fun t424 => ((sect_Check.f k (⟨#[46, 116, 101, 120, 116]⟩ : ByteArray) 3 ([] : List Int) 0).bind fun t425 => ((sect_Check.f k (⟨#[46, 98, 115, 115]⟩ : ByteArray) 1 (([1] : List Int)) 0).bind fun t429 => ((sect_Read.f k ([] : List Int)).bind fun bt430 => (if 64 ≤ 281474976710656 then (quoinlaw09_SectNames.l0 k bt414.1 bt414.2 bt416.2 bt418.1 bt418.2 t423 t424 t425 t429 bt430.2.2.2.2.2.2.2.2.2.2 (List.replicate 64 0) 0) else (none)))))))))) = some r := h
 clear h
 replace H := Option.bind_eq_some_iff.mp H
 obtain ⟨⟨t414, t415⟩, A10, H⟩ := H
 replace H : ((sect_Kind.f (⟨#[46, 98, 115, 115, 120]⟩ : ByteArray)).bind fun bt416 => ((sect_Kind.f (⟨#[46, 116, 101, 120, 116, 46]⟩ : ByteArray)).bind fun bt418 => ((sect_Check.f k (⟨#[46, 100, 97, 116, 97]⟩ : ByteArray) 4 (([1, 2, 3] : List Int)) 0).bind fun t423 => ((sect_Check.f k (⟨#[46, 98, 115, 115]⟩ : ByteArray) 1 ([] : List Int) 9).bind fun t424 => ((sect_Check.f k (⟨#[46, 116, 101, 120, 116]⟩ : ByteArray) 3 ([] : List Int) 0).bind fun t425 => ((sect_Check.f k (⟨#[46, 98, 115, 115]⟩ : ByteArray) 1 (([1] : List Int)) 0).bind fun t429 => ((sect_Read.f k ([] : List Int)).bind fun bt430 => (if 64 ≤ 281474976710656 then (quoinlaw09_SectNames.l0 k t414 t415 bt416.2 bt418.1 bt418.2 t423 t424 t425 t429 bt430.2.2.2.2.2.2.2.2.2.2 (List.replicate 64 0) 0) else (none))))))))) = some r := H
 have A1 := Aside0.mk A10
 clear A10
 replace H := Option.bind_eq_some_iff.mp H
 obtain ⟨⟨t416, t417⟩, A20, H⟩ := H
 replace H : ((sect_Kind.f (⟨#[46, 116, 101, 120, 116, 46]⟩ : ByteArray)).bind fun bt418 => ((sect_Check.f k (⟨#[46, 100, 97, 116, 97]⟩ : ByteArray) 4 (([1, 2, 3] : List Int)) 0).bind fun t423 => ((sect_Check.f k (⟨#[46, 98, 115, 115]⟩ : ByteArray) 1 ([] : List Int) 9).bind fun t424 => ((sect_Check.f k (⟨#[46, 116, 101, 120, 116]⟩ : ByteArray) 3 ([] : List Int) 0).bind fun t425 => ((sect_Check.f k (⟨#[46, 98, 115, 115]⟩ : ByteArray) 1 (([1] : List Int)) 0).bind fun t429 => ((sect_Read.f k ([] : List Int)).bind fun bt430 => (if 64 ≤ 281474976710656 then (quoinlaw09_SectNames.l0 k t414 t415 t417 bt418.1 bt418.2 t423 t424 t425 t429 bt430.2.2.2.2.2.2.2.2.2.2 (List.replicate 64 0) 0) else (none)))))))) = some r := H
 have A2 := Aside0.mk A20
 clear A20
 replace H := Option.bind_eq_some_iff.mp H
 obtain ⟨⟨t418, t419⟩, A30, H⟩ := H
 replace H : ((sect_Check.f k (⟨#[46, 100, 97, 116, 97]⟩ : ByteArray) 4 (([1, 2, 3] : List Int)) 0).bind fun t423 => ((sect_Check.f k (⟨#[46, 98, 115, 115]⟩ : ByteArray) 1 ([] : List Int) 9).bind fun t424 => ((sect_Check.f k (⟨#[46, 116, 101, 120, 116]⟩ : ByteArray) 3 ([] : List Int) 0).bind fun t425 => ((sect_Check.f k (⟨#[46, 98, 115, 115]⟩ : ByteArray) 1 (([1] : List Int)) 0).bind fun t429 => ((sect_Read.f k ([] : List Int)).bind fun bt430 => (if 64 ≤ 281474976710656 then (quoinlaw09_SectNames.l0 k t414 t415 t417 t418 t419 t423 t424 t425 t429 bt430.2.2.2.2.2.2.2.2.2.2 (List.replicate 64 0) 0) else (none))))))) = some r := H
 have A3 := Aside0.mk A30
 clear A30
 obtain ⟨y420, hy420⟩ : ∃ y_ : List Int, y_ = (([1, 2, 3] : List Int)) := ⟨_, rfl⟩
 replace H : ((sect_Check.f k (⟨#[46, 100, 97, 116, 97]⟩ : ByteArray) 4 y420 0).bind fun t423 => ((sect_Check.f k (⟨#[46, 98, 115, 115]⟩ : ByteArray) 1 ([] : List Int) 9).bind fun t424 => ((sect_Check.f k (⟨#[46, 116, 101, 120, 116]⟩ : ByteArray) 3 ([] : List Int) 0).bind fun t425 => ((sect_Check.f k (⟨#[46, 98, 115, 115]⟩ : ByteArray) 1 (([1] : List Int)) 0).bind fun t429 => ((sect_Read.f k ([] : List Int)).bind fun bt430 => (if 64 ≤ 281474976710656 then (quoinlaw09_SectNames.l0 k t414 t415 t417 t418 t419 t423 t424 t425 t429 bt430.2.2.2.2.2.2.2.2.2.2 (List.replicate 64 0) 0) else (none))))))) = some r := by first | (rw [hy420]; with_reducible exact H) | (have H2_ := (Option.bind_some _ _).symm.trans H; rw [hy420]; with_reducible exact H2_) | (have H2_ := (Option.bind_some _ _).symm.trans H; with_reducible exact H2_) | with_reducible exact H | (rw [hy420]; exact H) | exact H
 have Ny420 := Aside0.mk hy420
 clear hy420
 replace H := Option.bind_eq_some_iff.mp H
 obtain ⟨t423, A40, H⟩ := H
 replace H : ((sect_Check.f k (⟨#[46, 98, 115, 115]⟩ : ByteArray) 1 ([] : List Int) 9).bind fun t424 => ((sect_Check.f k (⟨#[46, 116, 101, 120, 116]⟩ : ByteArray) 3 ([] : List Int) 0).bind fun t425 => ((sect_Check.f k (⟨#[46, 98, 115, 115]⟩ : ByteArray) 1 (([1] : List Int)) 0).bind fun t429 => ((sect_Read.f k ([] : List Int)).bind fun bt430 => (if 64 ≤ 281474976710656 then (quoinlaw09_SectNames.l0 k t414 t415 t417 t418 t419 t423 t424 t425 t429 bt430.2.2.2.2.2.2.2.2.2.2 (List.replicate 64 0) 0) else (none)))))) = some r := H
 have A4 := Aside0.mk A40
 clear A40
 replace H := Option.bind_eq_some_iff.mp H
 obtain ⟨t424, A50, H⟩ := H
 replace H : ((sect_Check.f k (⟨#[46, 116, 101, 120, 116]⟩ : ByteArray) 3 ([] : List Int) 0).bind fun t425 => ((sect_Check.f k (⟨#[46, 98, 115, 115]⟩ : ByteArray) 1 (([1] : List Int)) 0).bind fun t429 => ((sect_Read.f k ([] : List Int)).bind fun bt430 => (if 64 ≤ 281474976710656 then (quoinlaw09_SectNames.l0 k t414 t415 t417 t418 t419 t423 t424 t425 t429 bt430.2.2.2.2.2.2.2.2.2.2 (List.replicate 64 0) 0) else (none))))) = some r := H
 have A5 := Aside0.mk A50
 clear A50
 replace H := Option.bind_eq_some_iff.mp H
 obtain ⟨t425, A60, H⟩ := H
 replace H : ((sect_Check.f k (⟨#[46, 98, 115, 115]⟩ : ByteArray) 1 (([1] : List Int)) 0).bind fun t429 => ((sect_Read.f k ([] : List Int)).bind fun bt430 => (if 64 ≤ 281474976710656 then (quoinlaw09_SectNames.l0 k t414 t415 t417 t418 t419 t423 t424 t425 t429 bt430.2.2.2.2.2.2.2.2.2.2 (List.replicate 64 0) 0) else (none)))) = some r := H
 have A6 := Aside0.mk A60
 clear A60
 obtain ⟨y426, hy426⟩ : ∃ y_ : List Int, y_ = (([1] : List Int)) := ⟨_, rfl⟩
 replace H : ((sect_Check.f k (⟨#[46, 98, 115, 115]⟩ : ByteArray) 1 y426 0).bind fun t429 => ((sect_Read.f k ([] : List Int)).bind fun bt430 => (if 64 ≤ 281474976710656 then (quoinlaw09_SectNames.l0 k t414 t415 t417 t418 t419 t423 t424 t425 t429 bt430.2.2.2.2.2.2.2.2.2.2 (List.replicate 64 0) 0) else (none)))) = some r := by first | (rw [hy426]; with_reducible exact H) | (have H2_ := (Option.bind_some _ _).symm.trans H; rw [hy426]; with_reducible exact H2_) | (have H2_ := (Option.bind_some _ _).symm.trans H; with_reducible exact H2_) | with_reducible exact H | (rw [hy426]; exact H) | exact H
 have Ny426 := Aside0.mk hy426
 clear hy426
 replace H := Option.bind_eq_some_iff.mp H
 obtain ⟨t429, A70, H⟩ := H
 replace H : ((sect_Read.f k ([] : List Int)).bind fun bt430 => (if 64 ≤ 281474976710656 then (quoinlaw09_SectNames.l0 k t414 t415 t417 t418 t419 t423 t424 t425 t429 bt430.2.2.2.2.2.2.2.2.2.2 (List.replicate 64 0) 0) else (none))) = some r := H
 have A7 := Aside0.mk A70
 clear A70
 replace H := Option.bind_eq_some_iff.mp H
 obtain ⟨⟨t430, t431, t432, t433, t434, t435, t436, t437, t438, t439, t440⟩, A80, H⟩ := H
 replace H : (if 64 ≤ 281474976710656 then (quoinlaw09_SectNames.l0 k t414 t415 t417 t418 t419 t423 t424 t425 t429 t440 (List.replicate 64 0) 0) else (none)) = some r := H
 have A8 := Aside0.mk A80
 clear A80
 by_cases c9 : 64 ≤ 281474976710656
 ·
  rw [if_pos c9] at H
  have c9b0 := eq_true c9
  have c9b1 : decide (64 ≤ 281474976710656) = true := decide_eq_true c9
  clear c9
  obtain ⟨y442, hy442⟩ : ∃ y_ : List Int, y_ = (List.replicate 64 0) := ⟨_, rfl⟩
  replace H : (quoinlaw09_SectNames.l0 k t414 t415 t417 t418 t419 t423 t424 t425 t429 t440 y442 0) = some r := by first | (rw [hy442]; with_reducible exact H) | (have H2_ := (Option.bind_some _ _).symm.trans H; rw [hy442]; with_reducible exact H2_) | (have H2_ := (Option.bind_some _ _).symm.trans H; with_reducible exact H2_) | with_reducible exact H | (rw [hy442]; exact H) | exact H
  have Ny442 := Aside0.mk hy442
  clear hy442
  have H' := Aside0.mk H
  clear H
  go_enter Try.func9, Try.ntmps9
  go_wp2_with (first | ((with_reducible refine gate_callee (f := 35) rfl ?_); refine goesL_ (some 18) rfl rfl Try.func35 (by kernel_rfl) rfl #[.string (⟨#[46, 116, 101, 120, 116]⟩ : ByteArray)] rfl (by (try simp only [List.map_toArray, List.map_cons, List.map_nil]); first | done | rfl | (simp only [List.length_drop, List.length_take]; rfl)) ?_; (with_reducible refine (sect_Kind.calls (⟨#[46, 116, 101, 120, 116]⟩ : ByteArray) t414 t415 _ A1.out).mono ?_); rintro e w10 ⟨rfl, hb⟩; refine ⟨_, rfl, ?_⟩; have n0_ := Aside0.mk (below_step (by repeat (first | (with_reducible first | exact HB.out | apply below_alloc | apply pw_below_drewN | apply below_drew1) | exact HB.out)) hb); clear HB; have HB := n0_; clear n0_; (try clear hb); (try clear hb2); (try clear hk); (try clear hi)) | ((with_reducible refine gate_callee (f := 35) rfl ?_); refine goesL_ (some 22) rfl rfl Try.func35 (by kernel_rfl) rfl #[.string (⟨#[46, 98, 115, 115, 120]⟩ : ByteArray)] rfl (by (try simp only [List.map_toArray, List.map_cons, List.map_nil]); first | done | rfl | (simp only [List.length_drop, List.length_take]; rfl)) ?_; (with_reducible refine (sect_Kind.calls (⟨#[46, 98, 115, 115, 120]⟩ : ByteArray) t416 t417 _ A2.out).mono ?_); rintro e w11 ⟨rfl, hb⟩; refine ⟨_, rfl, ?_⟩; have n0_ := Aside0.mk (below_step (by repeat (first | (with_reducible first | exact HB.out | apply below_alloc | apply pw_below_drewN | apply below_drew1) | exact HB.out)) hb); clear HB; have HB := n0_; clear n0_; (try clear hb); (try clear hb2); (try clear hk); (try clear hi)) | ((with_reducible refine gate_callee (f := 35) rfl ?_); refine goesL_ (some 26) rfl rfl Try.func35 (by kernel_rfl) rfl #[.string (⟨#[46, 116, 101, 120, 116, 46]⟩ : ByteArray)] rfl (by (try simp only [List.map_toArray, List.map_cons, List.map_nil]); first | done | rfl | (simp only [List.length_drop, List.length_take]; rfl)) ?_; (with_reducible refine (sect_Kind.calls (⟨#[46, 116, 101, 120, 116, 46]⟩ : ByteArray) t418 t419 _ A3.out).mono ?_); rintro e w12 ⟨rfl, hb⟩; refine ⟨_, rfl, ?_⟩; have n0_ := Aside0.mk (below_step (by repeat (first | (with_reducible first | exact HB.out | apply below_alloc | apply pw_below_drewN | apply below_drew1) | exact HB.out)) hb); clear HB; have HB := n0_; clear n0_; (try clear hb); (try clear hb2); (try clear hk); (try clear hi)) | ((with_reducible refine gate_dst (N := 29) rfl ?_); refine Kd.R_lit (Kd.int .u8) _ 5 ?hg (N := 29) ?hd (xs := ([1, 2, 3] : List Int)) (inner := [.int .u8 1, .int .u8 2, .int .u8 3]) (ok := fun _ => True) (okp := fun _ => True) ?hr ?hp (fun _ hk => hk) trivial (Below.refl _ _) (Nat.le_refl _) (by simp) ?_; (case hd => rfl); (case hg => rfl); (case hr => first | (go_simp; done) | (go_simp; rfl)); (case hp => exact (Reps.one (show Kd.M (Kd.int .u8) _ _ _ 1 [.int .u8 1] from rfl) (Reps.one (show Kd.M (Kd.int .u8) _ _ _ 2 [.int .u8 2] from rfl) (Reps.one (show Kd.M (Kd.int .u8) _ _ _ 3 [.int .u8 3] from rfl) (Reps.none _ _))))); intro v421 w13 ho14 hb hg_ hnew_; clear hg_ hnew_; (first | rw [← Ny420.out] at ho14 | (simp only [Int.reduceToNat] at ho14; rw [← Ny420.out] at ho14)); have n0_ := Aside0.mk (Kd.R_lower ho14 (below_size (by repeat (first | (with_reducible first | exact HB.out | apply below_alloc | apply pw_below_drewN | apply below_drew1) | exact HB.out)))); have n1_ := Aside0.mk (below_step (by repeat (first | (with_reducible first | exact HB.out | apply below_alloc | apply pw_below_drewN | apply below_drew1) | exact HB.out)) hb); clear HB; have HO422 := n0_; have HB := n1_; clear n0_ n1_; clear hb ho14; obtain ⟨Ao15, co15, eo15⟩ := Kd.R_slice HO422.out; subst eo15) | ((with_reducible refine gate_callee (f := 37) rfl ?_); refine goesL_ (some 31) rfl rfl Try.func37 (by kernel_rfl) rfl #[.agg #[.string (⟨#[46, 100, 97, 116, 97]⟩ : ByteArray), .int .i64 4, .slice Ao15 y420.length co15, .int .i64 0]] rfl (by (try simp only [List.map_toArray, List.map_cons, List.map_nil]); first | done | rfl | (simp only [List.length_drop, List.length_take]; rfl)) ?_; (with_reducible refine (sect_Check.calls k (⟨#[46, 100, 97, 116, 97]⟩ : ByteArray) 4 _ _ y420 0 t423 _ ?side1 ?side2 A4.out).mono ?_); (case side1 => repeat (first | exact (Kd.R_reads' HO422.out).2.2 | (with_reducible refine Kd.C_alloc ?_ _) | (with_reducible refine Kd.C_drewN ?_ _) | (with_reducible refine Kd.C_drew ?_))); (case side2 => exact (Kd.R_reads' HO422.out).2.1); rintro e w16 ⟨rfl, hb⟩; refine ⟨_, rfl, ?_⟩; have n0_ := Aside0.mk (Kd.R_below (by (with_reducible repeat (first | apply Kd.R_alloc | apply Kd.R_drewN | apply Kd.R_drew)); exact HO422.out) hb); have n1_ := Aside0.mk (below_step (by repeat (first | (with_reducible first | exact HB.out | apply below_alloc | apply pw_below_drewN | apply below_drew1) | exact HB.out)) hb); clear HO422; clear HB; have HO422 := n0_; have HB := n1_; clear n0_ n1_; (try clear hb); (try clear hb2); (try clear hk); (try clear hi)) | ((with_reducible refine gate_callee (f := 37) rfl ?_); refine goesL_ (some 33) rfl rfl Try.func37 (by kernel_rfl) rfl #[.agg #[.string (⟨#[46, 98, 115, 115]⟩ : ByteArray), .int .i64 1, .slice none 0 0, .int .i64 9]] rfl (by (try simp only [List.map_toArray, List.map_cons, List.map_nil]); first | done | rfl | (simp only [List.length_drop, List.length_take]; rfl)) ?_; (refine (sect_Check.calls k (⟨#[46, 98, 115, 115]⟩ : ByteArray) 1 _ _ ([] : List Int) 9 t424 _ ?side1 ?side2 A5.out).mono ?_); (case side1 => exact Kd.C_nil _ _); (case side2 => exact Nat.le_refl _); rintro e w17 ⟨rfl, hb⟩; refine ⟨_, rfl, ?_⟩; have n0_ := Aside0.mk (Kd.R_below (by (with_reducible repeat (first | apply Kd.R_alloc | apply Kd.R_drewN | apply Kd.R_drew)); exact HO422.out) hb); have n1_ := Aside0.mk (below_step (by repeat (first | (with_reducible first | exact HB.out | apply below_alloc | apply pw_below_drewN | apply below_drew1) | exact HB.out)) hb); clear HO422; clear HB; have HO422 := n0_; have HB := n1_; clear n0_ n1_; (try clear hb); (try clear hb2); (try clear hk); (try clear hi)) | ((with_reducible refine gate_callee (f := 37) rfl ?_); refine goesL_ (some 35) rfl rfl Try.func37 (by kernel_rfl) rfl #[.agg #[.string (⟨#[46, 116, 101, 120, 116]⟩ : ByteArray), .int .i64 3, .slice none 0 0, .int .i64 0]] rfl (by (try simp only [List.map_toArray, List.map_cons, List.map_nil]); first | done | rfl | (simp only [List.length_drop, List.length_take]; rfl)) ?_; (refine (sect_Check.calls k (⟨#[46, 116, 101, 120, 116]⟩ : ByteArray) 3 _ _ ([] : List Int) 0 t425 _ ?side1 ?side2 A6.out).mono ?_); (case side1 => exact Kd.C_nil _ _); (case side2 => exact Nat.le_refl _); rintro e w18 ⟨rfl, hb⟩; refine ⟨_, rfl, ?_⟩; have n0_ := Aside0.mk (Kd.R_below (by (with_reducible repeat (first | apply Kd.R_alloc | apply Kd.R_drewN | apply Kd.R_drew)); exact HO422.out) hb); have n1_ := Aside0.mk (below_step (by repeat (first | (with_reducible first | exact HB.out | apply below_alloc | apply pw_below_drewN | apply below_drew1) | exact HB.out)) hb); clear HO422; clear HB; have HO422 := n0_; have HB := n1_; clear n0_ n1_; (try clear hb); (try clear hb2); (try clear hk); (try clear hi)) | ((with_reducible refine gate_dst (N := 36) rfl ?_); refine Kd.R_lit (Kd.int .u8) _ 5 ?hg (N := 36) ?hd (xs := ([1] : List Int)) (inner := [.int .u8 1]) (ok := fun _ => True) (okp := fun _ => True) ?hr ?hp (fun _ hk => hk) trivial (Below.refl _ _) (Nat.le_refl _) (by simp) ?_; (case hd => rfl); (case hg => rfl); (case hr => first | (go_simp; done) | (go_simp; rfl)); (case hp => exact (Reps.one (show Kd.M (Kd.int .u8) _ _ _ 1 [.int .u8 1] from rfl) (Reps.none _ _))); intro v427 w19 ho20 hb hg_ hnew_; clear hg_ hnew_; (first | rw [← Ny426.out] at ho20 | (simp only [Int.reduceToNat] at ho20; rw [← Ny426.out] at ho20)); have n0_ := Aside0.mk (Kd.R_elder' (by (with_reducible repeat (first | apply Kd.R_alloc | apply Kd.R_drewN | apply Kd.R_drew)); exact HO422.out) (Kd.R_base ho20) hb); have n1_ := Aside0.mk (Kd.R_lower (Kd.R_new' ho20 (Kd.R_lt (by (with_reducible repeat (first | apply Kd.R_alloc | apply Kd.R_drewN | apply Kd.R_drew)); exact HO422.out))) (below_size (by repeat (first | (with_reducible first | exact HB.out | apply below_alloc | apply pw_below_drewN | apply below_drew1) | exact HB.out)))); have n2_ := Aside0.mk (below_step (by repeat (first | (with_reducible first | exact HB.out | apply below_alloc | apply pw_below_drewN | apply below_drew1) | exact HB.out)) hb); clear HO422; clear HB; have HO422 := n0_; have HO428 := n1_; have HB := n2_; clear n0_ n1_ n2_; clear hb ho20; obtain ⟨Ao21, co21, eo21⟩ := Kd.R_slice HO428.out; subst eo21) | ((with_reducible refine gate_callee (f := 37) rfl ?_); refine goesL_ (some 38) rfl rfl Try.func37 (by kernel_rfl) rfl #[.agg #[.string (⟨#[46, 98, 115, 115]⟩ : ByteArray), .int .i64 1, .slice Ao21 y426.length co21, .int .i64 0]] rfl (by (try simp only [List.map_toArray, List.map_cons, List.map_nil]); first | done | rfl | (simp only [List.length_drop, List.length_take]; rfl)) ?_; (with_reducible refine (sect_Check.calls k (⟨#[46, 98, 115, 115]⟩ : ByteArray) 1 _ _ y426 0 t429 _ ?side1 ?side2 A7.out).mono ?_); (case side1 => repeat (first | exact (Kd.R_reads' HO428.out).2.2 | (with_reducible refine Kd.C_alloc ?_ _) | (with_reducible refine Kd.C_drewN ?_ _) | (with_reducible refine Kd.C_drew ?_))); (case side2 => exact (Kd.R_reads' HO428.out).2.1); rintro e w22 ⟨rfl, hb⟩; refine ⟨_, rfl, ?_⟩; have n0_ := Aside0.mk (Kd.R_below (by (with_reducible repeat (first | apply Kd.R_alloc | apply Kd.R_drewN | apply Kd.R_drew)); exact HO422.out) hb); have n1_ := Aside0.mk (Kd.R_below (by (with_reducible repeat (first | apply Kd.R_alloc | apply Kd.R_drewN | apply Kd.R_drew)); exact HO428.out) hb); have n2_ := Aside0.mk (below_step (by repeat (first | (with_reducible first | exact HB.out | apply below_alloc | apply pw_below_drewN | apply below_drew1) | exact HB.out)) hb); clear HO422; clear HO428; clear HB; have HO422 := n0_; have HO428 := n1_; have HB := n2_; clear n0_ n1_ n2_; (try clear hb); (try clear hb2); (try clear hk); (try clear hi)) | ((with_reducible refine gate_callee (f := 29) rfl ?_); refine goesL_ (some 40) rfl rfl Try.func29 (by kernel_rfl) rfl #[.slice none 0 0] rfl (by (try simp only [List.map_toArray, List.map_cons, List.map_nil]); first | done | rfl | (simp only [List.length_drop, List.length_take]; rfl)) ?_; (refine (sect_Read.calls k _ _ ([] : List Int) t430 t431 t432 t433 t434 t435 t436 t437 t438 t439 t440 _ ?side1 ?side2 A8.out).mono ?_); (case side1 => exact Kd.C_nil _ _); (case side2 => exact Nat.le_refl _); rintro e w23 ⟨rfl, hb⟩; refine ⟨_, rfl, ?_⟩; have n0_ := Aside0.mk (Kd.R_below (by (with_reducible repeat (first | apply Kd.R_alloc | apply Kd.R_drewN | apply Kd.R_drew)); exact HO422.out) hb); have n1_ := Aside0.mk (Kd.R_below (by (with_reducible repeat (first | apply Kd.R_alloc | apply Kd.R_drewN | apply Kd.R_drew)); exact HO428.out) hb); have n2_ := Aside0.mk (below_step (by repeat (first | (with_reducible first | exact HB.out | apply below_alloc | apply pw_below_drewN | apply below_drew1) | exact HB.out)) hb); clear HO422; clear HO428; clear HB; have HO422 := n0_; have HO428 := n1_; have HB := n2_; clear n0_ n1_ n2_; (try clear hb); (try clear hb2); (try clear hk); (try clear hi)) | ((with_reducible refine gate_dst (N := 11) rfl ?_); refine box_event ?hg (N := 11) ?hd (cs := #[.int .i64 0, .int .i64 0, .int .i64 0, .int .i64 0, .int .i64 0, .int .i64 0, .int .i64 0, .int .i64 0, .int .i64 0, .int .i64 0]) (t := 23) ?hr ?_; (case hd => rfl); (case hg => rfl); (case hr => first | (go_simp; done) | (go_simp; rfl)); intro gb441 hg w24 hbox hb; have n0_ := Aside0.mk (Kd.R_below (by (with_reducible repeat (first | apply Kd.R_alloc | apply Kd.R_drewN | apply Kd.R_drew)); exact HO422.out) hb); have n1_ := Aside0.mk (Kd.R_below (by (with_reducible repeat (first | apply Kd.R_alloc | apply Kd.R_drewN | apply Kd.R_drew)); exact HO428.out) hb); have n2_ := Aside0.mk (below_step (by repeat (first | (with_reducible first | exact HB.out | apply below_alloc | apply pw_below_drewN | apply below_drew1) | exact HB.out)) hb); have n3_ := Aside0.mk (hbox); have n4_ := Aside0.mk ((by rw [hg]; exact (below_size (by repeat (first | (with_reducible first | exact HB.out | apply below_alloc | apply pw_below_drewN | apply below_drew1) | exact HB.out))) : w.heap.size ≤ gb441)); have n5_ := Aside0.mk ((by rw [hg]; exact (below_size (by repeat (first | (with_reducible first | exact HB.out | apply below_alloc | apply pw_below_drewN | apply below_drew1) | exact HB.out))) : w.heap.size ≤ gb441)); clear HO422; clear HO428; clear HB; have HO422 := n0_; have HO428 := n1_; have HB := n2_; have BK441 := n3_; have GW441 := n4_; have GE441 := n5_; clear n0_ n1_ n2_ n3_ n4_ n5_; clear hb hbox hg; have hcz25_0 : w24.cell? ⟨gb441, 0, none⟩ = some (.int .i64 0) := (blk_cell BK441.out 0).trans rfl; have hcz25_1 : w24.cell? ⟨gb441, 1, none⟩ = some (.int .i64 0) := (blk_cell BK441.out 1).trans rfl; have hcz25_2 : w24.cell? ⟨gb441, 2, none⟩ = some (.int .i64 0) := (blk_cell BK441.out 2).trans rfl; have hcz25_3 : w24.cell? ⟨gb441, 3, none⟩ = some (.int .i64 0) := (blk_cell BK441.out 3).trans rfl; have hcz25_4 : w24.cell? ⟨gb441, 4, none⟩ = some (.int .i64 0) := (blk_cell BK441.out 4).trans rfl; have hcz25_5 : w24.cell? ⟨gb441, 5, none⟩ = some (.int .i64 0) := (blk_cell BK441.out 5).trans rfl; have hcz25_6 : w24.cell? ⟨gb441, 6, none⟩ = some (.int .i64 0) := (blk_cell BK441.out 6).trans rfl; have hcz25_7 : w24.cell? ⟨gb441, 7, none⟩ = some (.int .i64 0) := (blk_cell BK441.out 7).trans rfl; have hcz25_8 : w24.cell? ⟨gb441, 8, none⟩ = some (.int .i64 0) := (blk_cell BK441.out 8).trans rfl; have hcz25_9 : w24.cell? ⟨gb441, 9, none⟩ = some (.int .i64 0) := (blk_cell BK441.out 9).trans rfl; have hfz25_0 := blk_frozen BK441.out 0; have hfz25_1 := blk_frozen BK441.out 1; have hfz25_2 := blk_frozen BK441.out 2; have hfz25_3 := blk_frozen BK441.out 3; have hfz25_4 := blk_frozen BK441.out 4; have hfz25_5 := blk_frozen BK441.out 5; have hfz25_6 := blk_frozen BK441.out 6; have hfz25_7 := blk_frozen BK441.out 7; have hfz25_8 := blk_frozen BK441.out 8; have hfz25_9 := blk_frozen BK441.out 9) | ((with_reducible refine gate_dst (N := 43) rfl ?_); refine Kd.R_make (Kd.int .u8) _ 5 rfl (N := 43) rfl 24 _ _ rfl 64 rfl rfl Try.underlying24 (.int .u8 0) 1 info5 rfl (by decide) (by omega) 0 (ok := fun _ => True) (okp := fun _ => True) rfl (fun _ hk => hk) trivial (by omega) (by omega) (Below.refl _ _) (Nat.le_refl _) ?_; intro v443 w26 ho27 hb hg_ hnew_; clear hg_ hnew_; (first | rw [← Ny442.out] at ho27 | (simp only [Int.reduceToNat] at ho27; rw [← Ny442.out] at ho27)); have n0_ := Aside0.mk (Kd.R_elder' (by (with_reducible repeat (first | apply Kd.R_alloc | apply Kd.R_drewN | apply Kd.R_drew)); exact (Kd.R_mono (Kd.R_far (p := ⟨gb441, 9, none⟩) (Kd.R_far (p := ⟨gb441, 8, none⟩) (Kd.R_far (p := ⟨gb441, 7, none⟩) (Kd.R_far (p := ⟨gb441, 6, none⟩) (Kd.R_far (p := ⟨gb441, 5, none⟩) (Kd.R_far (p := ⟨gb441, 4, none⟩) (Kd.R_far (p := ⟨gb441, 3, none⟩) (Kd.R_far (p := ⟨gb441, 2, none⟩) (Kd.R_far (p := ⟨gb441, 1, none⟩) (Kd.R_far (p := ⟨gb441, 0, none⟩) (Kd.R_types HO422.out BK441.out (by decide)) (fun _ hk => hk.2) (.int .i64 t430)) (fun _ hk => hk.2) (.int .i64 t431)) (fun _ hk => hk.2) (.int .i64 t432)) (fun _ hk => hk.2) (.int .i64 t433)) (fun _ hk => hk.2) (.int .i64 t434)) (fun _ hk => hk.2) (.int .i64 t435)) (fun _ hk => hk.2) (.int .i64 t436)) (fun _ hk => hk.2) (.int .i64 t437)) (fun _ hk => hk.2) (.int .i64 t438)) (fun _ hk => hk.2) (.int .i64 t439)) (fun _ h_ => h_.1))) (Kd.R_base ho27) hb); have n1_ := Aside0.mk (Kd.R_elder' (by (with_reducible repeat (first | apply Kd.R_alloc | apply Kd.R_drewN | apply Kd.R_drew)); exact (Kd.R_mono (Kd.R_far (p := ⟨gb441, 9, none⟩) (Kd.R_far (p := ⟨gb441, 8, none⟩) (Kd.R_far (p := ⟨gb441, 7, none⟩) (Kd.R_far (p := ⟨gb441, 6, none⟩) (Kd.R_far (p := ⟨gb441, 5, none⟩) (Kd.R_far (p := ⟨gb441, 4, none⟩) (Kd.R_far (p := ⟨gb441, 3, none⟩) (Kd.R_far (p := ⟨gb441, 2, none⟩) (Kd.R_far (p := ⟨gb441, 1, none⟩) (Kd.R_far (p := ⟨gb441, 0, none⟩) (Kd.R_types HO428.out BK441.out (by decide)) (fun _ hk => hk.2) (.int .i64 t430)) (fun _ hk => hk.2) (.int .i64 t431)) (fun _ hk => hk.2) (.int .i64 t432)) (fun _ hk => hk.2) (.int .i64 t433)) (fun _ hk => hk.2) (.int .i64 t434)) (fun _ hk => hk.2) (.int .i64 t435)) (fun _ hk => hk.2) (.int .i64 t436)) (fun _ hk => hk.2) (.int .i64 t437)) (fun _ hk => hk.2) (.int .i64 t438)) (fun _ hk => hk.2) (.int .i64 t439)) (fun _ h_ => h_.1))) (Kd.R_base ho27) hb); have n2_ := Aside0.mk (Kd.R_lower (Kd.R_new' (Kd.R_new' ho27 (Kd.R_lt (by (with_reducible repeat (first | apply Kd.R_alloc | apply Kd.R_drewN | apply Kd.R_drew)); exact (Kd.R_mono (Kd.R_far (p := ⟨gb441, 9, none⟩) (Kd.R_far (p := ⟨gb441, 8, none⟩) (Kd.R_far (p := ⟨gb441, 7, none⟩) (Kd.R_far (p := ⟨gb441, 6, none⟩) (Kd.R_far (p := ⟨gb441, 5, none⟩) (Kd.R_far (p := ⟨gb441, 4, none⟩) (Kd.R_far (p := ⟨gb441, 3, none⟩) (Kd.R_far (p := ⟨gb441, 2, none⟩) (Kd.R_far (p := ⟨gb441, 1, none⟩) (Kd.R_far (p := ⟨gb441, 0, none⟩) (Kd.R_types HO422.out BK441.out (by decide)) (fun _ hk => hk.2) (.int .i64 t430)) (fun _ hk => hk.2) (.int .i64 t431)) (fun _ hk => hk.2) (.int .i64 t432)) (fun _ hk => hk.2) (.int .i64 t433)) (fun _ hk => hk.2) (.int .i64 t434)) (fun _ hk => hk.2) (.int .i64 t435)) (fun _ hk => hk.2) (.int .i64 t436)) (fun _ hk => hk.2) (.int .i64 t437)) (fun _ hk => hk.2) (.int .i64 t438)) (fun _ hk => hk.2) (.int .i64 t439)) (fun _ h_ => h_.1))))) (Kd.R_lt (by (with_reducible repeat (first | apply Kd.R_alloc | apply Kd.R_drewN | apply Kd.R_drew)); exact (Kd.R_mono (Kd.R_far (p := ⟨gb441, 9, none⟩) (Kd.R_far (p := ⟨gb441, 8, none⟩) (Kd.R_far (p := ⟨gb441, 7, none⟩) (Kd.R_far (p := ⟨gb441, 6, none⟩) (Kd.R_far (p := ⟨gb441, 5, none⟩) (Kd.R_far (p := ⟨gb441, 4, none⟩) (Kd.R_far (p := ⟨gb441, 3, none⟩) (Kd.R_far (p := ⟨gb441, 2, none⟩) (Kd.R_far (p := ⟨gb441, 1, none⟩) (Kd.R_far (p := ⟨gb441, 0, none⟩) (Kd.R_types HO428.out BK441.out (by decide)) (fun _ hk => hk.2) (.int .i64 t430)) (fun _ hk => hk.2) (.int .i64 t431)) (fun _ hk => hk.2) (.int .i64 t432)) (fun _ hk => hk.2) (.int .i64 t433)) (fun _ hk => hk.2) (.int .i64 t434)) (fun _ hk => hk.2) (.int .i64 t435)) (fun _ hk => hk.2) (.int .i64 t436)) (fun _ hk => hk.2) (.int .i64 t437)) (fun _ hk => hk.2) (.int .i64 t438)) (fun _ hk => hk.2) (.int .i64 t439)) (fun _ h_ => h_.1))))) (below_size (by repeat (first | (with_reducible first | exact HB.out | apply below_alloc | apply pw_below_drewN | apply below_drew1 | refine below_set ?_ GE441.out) | exact HB.out)))); have n3_ := Aside0.mk (blk_below (g := gb441) (o := .cells #[.int .i64 t430, .int .i64 t431, .int .i64 t432, .int .i64 t433, .int .i64 t434, .int .i64 t435, .int .i64 t436, .int .i64 t437, .int .i64 t438, .int .i64 t439] 23 (0, 0)) (by (with_reducible repeat (first | refine blk_drewN ?_ _ | refine blk_drew ?_ | refine blk_alloc ?_ _)); refine blk_put (cs := #[.int .i64 t430, .int .i64 t431, .int .i64 t432, .int .i64 t433, .int .i64 t434, .int .i64 t435, .int .i64 t436, .int .i64 t437, .int .i64 t438, .int .i64 0]) ?_ 9 _ rfl; (with_reducible repeat (first | refine blk_drewN ?_ _ | refine blk_drew ?_ | refine blk_alloc ?_ _)); refine blk_put (cs := #[.int .i64 t430, .int .i64 t431, .int .i64 t432, .int .i64 t433, .int .i64 t434, .int .i64 t435, .int .i64 t436, .int .i64 t437, .int .i64 0, .int .i64 0]) ?_ 8 _ rfl; (with_reducible repeat (first | refine blk_drewN ?_ _ | refine blk_drew ?_ | refine blk_alloc ?_ _)); refine blk_put (cs := #[.int .i64 t430, .int .i64 t431, .int .i64 t432, .int .i64 t433, .int .i64 t434, .int .i64 t435, .int .i64 t436, .int .i64 0, .int .i64 0, .int .i64 0]) ?_ 7 _ rfl; (with_reducible repeat (first | refine blk_drewN ?_ _ | refine blk_drew ?_ | refine blk_alloc ?_ _)); refine blk_put (cs := #[.int .i64 t430, .int .i64 t431, .int .i64 t432, .int .i64 t433, .int .i64 t434, .int .i64 t435, .int .i64 0, .int .i64 0, .int .i64 0, .int .i64 0]) ?_ 6 _ rfl; (with_reducible repeat (first | refine blk_drewN ?_ _ | refine blk_drew ?_ | refine blk_alloc ?_ _)); refine blk_put (cs := #[.int .i64 t430, .int .i64 t431, .int .i64 t432, .int .i64 t433, .int .i64 t434, .int .i64 0, .int .i64 0, .int .i64 0, .int .i64 0, .int .i64 0]) ?_ 5 _ rfl; (with_reducible repeat (first | refine blk_drewN ?_ _ | refine blk_drew ?_ | refine blk_alloc ?_ _)); refine blk_put (cs := #[.int .i64 t430, .int .i64 t431, .int .i64 t432, .int .i64 t433, .int .i64 0, .int .i64 0, .int .i64 0, .int .i64 0, .int .i64 0, .int .i64 0]) ?_ 4 _ rfl; (with_reducible repeat (first | refine blk_drewN ?_ _ | refine blk_drew ?_ | refine blk_alloc ?_ _)); refine blk_put (cs := #[.int .i64 t430, .int .i64 t431, .int .i64 t432, .int .i64 0, .int .i64 0, .int .i64 0, .int .i64 0, .int .i64 0, .int .i64 0, .int .i64 0]) ?_ 3 _ rfl; (with_reducible repeat (first | refine blk_drewN ?_ _ | refine blk_drew ?_ | refine blk_alloc ?_ _)); refine blk_put (cs := #[.int .i64 t430, .int .i64 t431, .int .i64 0, .int .i64 0, .int .i64 0, .int .i64 0, .int .i64 0, .int .i64 0, .int .i64 0, .int .i64 0]) ?_ 2 _ rfl; (with_reducible repeat (first | refine blk_drewN ?_ _ | refine blk_drew ?_ | refine blk_alloc ?_ _)); refine blk_put (cs := #[.int .i64 t430, .int .i64 0, .int .i64 0, .int .i64 0, .int .i64 0, .int .i64 0, .int .i64 0, .int .i64 0, .int .i64 0, .int .i64 0]) ?_ 1 _ rfl; (with_reducible repeat (first | refine blk_drewN ?_ _ | refine blk_drew ?_ | refine blk_alloc ?_ _)); refine blk_put (cs := #[.int .i64 0, .int .i64 0, .int .i64 0, .int .i64 0, .int .i64 0, .int .i64 0, .int .i64 0, .int .i64 0, .int .i64 0, .int .i64 0]) ?_ 0 _ rfl; (with_reducible repeat (first | refine blk_drewN ?_ _ | refine blk_drew ?_ | refine blk_alloc ?_ _)); exact BK441.out) hb); have n4_ := Aside0.mk (below_step (by repeat (first | (with_reducible first | exact HB.out | apply below_alloc | apply pw_below_drewN | apply below_drew1 | refine below_set ?_ GE441.out) | exact HB.out)) hb); clear HO422; clear HO428; clear BK441; clear HB; have HO422 := n0_; have HO428 := n1_; have HO444 := n2_; have BK441 := n3_; have HB := n4_; clear n0_ n1_ n2_ n3_ n4_; clear hb ho27))
  go_loopg [14] k (fun kq v14 w' => ∃ (x13_1 : List Int) (x14_1 : Int), v14 = .int .i64 x14_1 ∧ Aside0 (quoinlaw09_SectNames.l0 kq t414 t415 t417 t418 t419 t423 t424 t425 t429 t440 x13_1 x14_1 = some r) ∧ Aside0 (kq ≤ k) ∧ Aside0 (Kd.R (Kd.int .u8) 5 w' w.heap.size (fun _ => True) v443 x13_1) ∧ Aside0 (w'.heap[gb441]? = some (.cells #[.int .i64 t430, .int .i64 t431, .int .i64 t432, .int .i64 t433, .int .i64 t434, .int .i64 t435, .int .i64 t436, .int .i64 t437, .int .i64 t438, .int .i64 t439] 23 (0, 0))) ∧ Aside0 (Below w.heap.size w w'))
  case atStart => exact ⟨(y442), (0), (by first | rfl | (simp; done) | (simp [*]; done)), H', ⟨Nat.le_refl _⟩, ⟨by (with_reducible repeat (first | apply Kd.R_alloc | apply Kd.R_drewN | apply Kd.R_drew)); exact Kd.R_mono HO444.out (fun _ hk => trivial)⟩, ⟨by (with_reducible repeat (first | refine blk_drewN ?_ _ | refine blk_drew ?_ | refine blk_alloc ?_ _)); exact BK441.out⟩, ⟨by repeat (first | (with_reducible first | exact HB.out | apply below_alloc | apply pw_below_drewN | apply below_drew1 | refine below_set ?_ GE441.out) | exact HB.out)⟩⟩
  case round =>
   clear H'
   try clear c2
   try clear p2
   try clear c3
   try clear c9
   try clear c9b0
   try clear c9b1
   try clear hcz25_0
   try clear hcz25_1
   try clear hcz25_2
   try clear hcz25_3
   try clear hcz25_4
   try clear hcz25_5
   try clear hcz25_6
   try clear hcz25_7
   try clear hcz25_8
   try clear hcz25_9
   try clear hfz25_0
   try clear hfz25_1
   try clear hfz25_2
   try clear hfz25_3
   try clear hfz25_4
   try clear hfz25_5
   try clear hfz25_6
   try clear hfz25_7
   try clear hfz25_8
   try clear hfz25_9
   obtain ⟨x13_1, x14_1, rfl, HA, HK1, HO_13, BK441, HB⟩ := hrel
   cases gk with
   | zero => exact absurd HA.out (by simp [quoinlaw09_SectNames.l0])
   | succ k1 =>
    have H := HA.out
    clear HA
    simp only [quoinlaw09_SectNames.l0] at H
    by_cases c28 : x14_1 < 64
    ·
     rw [if_pos c28] at H
     have c28b0 : decide (x14_1 < 64) = true := decide_eq_true c28
     clear c28
     by_cases c29 : 0 ≤ x14_1
     ·
      rw [if_pos c29] at H
      have c29b0 : decide (0 ≤ x14_1) = true := decide_eq_true c29
      clear c29
      by_cases c30 : x14_1 < (x13_1.length : Int)
      ·
       rw [if_pos c30] at H
       have c30b0 : decide (x14_1 < (x13_1.length : Int)) = true := decide_eq_true c30
       clear c30
       obtain ⟨y445, hy445⟩ : ∃ y_ : List Int, y_ = (x13_1.set (x14_1 : Int).toNat 255) := ⟨_, rfl⟩
       replace H : (quoinlaw09_SectNames.l0 k1 t414 t415 t417 t418 t419 t423 t424 t425 t429 t440 y445 (wrap64 (x14_1 + 1))) = some r := by first | (rw [hy445]; with_reducible exact H) | (have H2_ := (Option.bind_some _ _).symm.trans H; rw [hy445]; with_reducible exact H2_) | (have H2_ := (Option.bind_some _ _).symm.trans H; with_reducible exact H2_) | with_reducible exact H | (rw [hy445]; exact H) | exact H
       have Ny445 := Aside0.mk hy445
       clear hy445
       have H' := Aside0.mk H
       clear H
       have p31 : 0 ≤ (x14_1 : Int) := of_decide_eq_true (by first | (with_reducible assumption) | assumption)
       have q31 : (x14_1 : Int) < ((x13_1.length : Int) : Int) := of_decide_eq_true (by first | (with_reducible assumption) | assumption)
       obtain ⟨go31, co31, eo31, gb31, gl31, cl31, HG31⟩ := Kd.R_form HO_13.out (by omega)
       (first | cases eo31 | (injection eo31 with ea_ en_ ec_; (first | subst ea_ | (injection ea_ with ea_; subst ea_)); subst ec_; clear en_))
       have GB31 := Aside0.mk gb31
       have GG31 := Aside0.mk HG31
       clear gb31 gl31 HG31
       obtain ⟨hx31_0, hf31_0⟩ := Kd.R_celln 0 HO_13.out (x14_1 : Int) p31 q31
       replace p31 := eq_true p31
       replace q31 := eq_true q31
       have HP32 := Kd.R_putg HO_13.out (x14_1 : Int) 255
       go_wp2_with (first | ((with_reducible refine gate_store (t := 5) (p := 50) rfl ?_); refine store_event (t := 5) (p := 50) (v := ?vo_w33) (w1 := (wr.setCell ⟨go31, (x14_1 : Int).toNat, none⟩ (.int .u8 255))) ?hg ?ho ?hn ?hr ?_; (case ho => rfl); (case hg => rfl); (case hn => rfl); (case hr => first | (go_simp; done) | (go_simp; rfl)); intro w33 hw; have hg : wr.grownBy w33 (some go31) := (by rw [hw]; exact HP32.2); have hp_ : Kd.R (Kd.int .u8) 5 w33 w.heap.size (fun _ => True) (.slice (some ⟨go31, 0, none⟩) x13_1.length co31) y445 := (by rw [hw, Ny445.out]; exact HP32.1); clear HP32; have n0_ := Aside0.mk (hp_); have n1_ := Aside0.mk (blk_grown (g := gb441) (o := .cells #[.int .i64 t430, .int .i64 t431, .int .i64 t432, .int .i64 t433, .int .i64 t434, .int .i64 t435, .int .i64 t436, .int .i64 t437, .int .i64 t438, .int .i64 t439] 23 (0, 0)) (by (with_reducible repeat (first | refine blk_drewN ?_ _ | refine blk_drew ?_ | refine blk_alloc ?_ _)); exact BK441.out) hg (Kd.R_ne HO_13.out BK441.out (by decide))); have n2_ := Aside0.mk ((by rw [hw]; exact below_set (HB.out) GB31.out : Below w.heap.size w w33)); clear HO_13; clear BK441; clear HB; have HO_13 := n0_; have BK441 := n1_; have HB := n2_; clear n0_ n1_ n2_; clear hg hw hp_))
       go_roundg k1
       case measure => have := HK1.out; omega
       case rel => exact ⟨(y445), (wrap64 (x14_1 + 1)), (by first | rfl | (simp; done) | (simp [*]; done)), H', ⟨by have := HK1.out; omega⟩, ⟨by (with_reducible repeat (first | apply Kd.R_alloc | apply Kd.R_drewN | apply Kd.R_drew)); exact HO_13.out⟩, ⟨by (with_reducible repeat (first | refine blk_drewN ?_ _ | refine blk_drew ?_ | refine blk_alloc ?_ _)); exact BK441.out⟩, ⟨by repeat (first | (with_reducible first | exact HB.out | apply below_alloc | apply pw_below_drewN | apply below_drew1 | refine below_set ?_ GE441.out) | exact HB.out)⟩⟩
      ·
       rw [if_neg c30] at H
       exact absurd H (by simp)
     ·
      rw [if_neg c29] at H
      exact absurd H (by simp)
    ·
     rw [if_neg c28] at H
     have c28b0 : decide (x14_1 < 64) = false := decide_eq_false c28
     clear c28
     replace H := Option.bind_eq_some_iff.mp H
     obtain ⟨⟨t446, t447, t448, t449, t450, t451, t452, t453, t454, t455, t456⟩, A340, H⟩ := H
     replace H : ((quoinlaw09_alive.f k1).bind fun t458 => (if t458 = true then (if t414 = 1 then (if t415 = 0 then (if t417 = 3 then (if t418 = 1 then (if t419 = 0 then (if t423 = 0 then (if t424 = 0 then (if t425 = 8 then (if t429 = 8 then (if t440 = 3 then (some (t456 == 8)) else (none)) else (none)) else (none)) else (none)) else (none)) else (none)) else (none)) else (none)) else (none)) else (none)) else (none))) = some r := H
     have A34 := Aside0.mk A340
     clear A340
     replace H := Option.bind_eq_some_iff.mp H
     obtain ⟨t458, A350, H⟩ := H
     replace H : (if t458 = true then (if t414 = 1 then (if t415 = 0 then (if t417 = 3 then (if t418 = 1 then (if t419 = 0 then (if t423 = 0 then (if t424 = 0 then (if t425 = 8 then (if t429 = 8 then (if t440 = 3 then (some (t456 == 8)) else (none)) else (none)) else (none)) else (none)) else (none)) else (none)) else (none)) else (none)) else (none)) else (none)) else (none)) = some r := H
     have A35 := Aside0.mk A350
     clear A350
     by_cases c36 : t458 = true
     ·
      subst c36
      have H1 : (if t414 = 1 then (if t415 = 0 then (if t417 = 3 then (if t418 = 1 then (if t419 = 0 then (if t423 = 0 then (if t424 = 0 then (if t425 = 8 then (if t429 = 8 then (if t440 = 3 then (some (t456 == 8)) else (none)) else (none)) else (none)) else (none)) else (none)) else (none)) else (none)) else (none)) else (none)) else (none)) = some r := by rw [if_pos rfl] at H; exact H
      clear H
      have H := H1
      clear H1
      by_cases c37 : t414 = 1
      ·
       rw [if_pos c37] at H
       have c37b0 : (t414 == 1) = true := beq_iff_eq.mpr c37
       have c37b1 : (t414 != 1) = false := bne_eq_false_iff_eq.mpr c37
       clear c37
       by_cases c38 : t415 = 0
       ·
        rw [if_pos c38] at H
        have c38b0 : (t415 == 0) = true := beq_iff_eq.mpr c38
        have c38b1 : (t415 != 0) = false := bne_eq_false_iff_eq.mpr c38
        clear c38
        by_cases c39 : t417 = 3
        ·
         rw [if_pos c39] at H
         have c39b0 : (t417 == 3) = true := beq_iff_eq.mpr c39
         have c39b1 : (t417 != 3) = false := bne_eq_false_iff_eq.mpr c39
         clear c39
         by_cases c40 : t418 = 1
         ·
          rw [if_pos c40] at H
          have c40b0 : (t418 == 1) = true := beq_iff_eq.mpr c40
          have c40b1 : (t418 != 1) = false := bne_eq_false_iff_eq.mpr c40
          clear c40
          by_cases c41 : t419 = 0
          ·
           rw [if_pos c41] at H
           have c41b0 : (t419 == 0) = true := beq_iff_eq.mpr c41
           have c41b1 : (t419 != 0) = false := bne_eq_false_iff_eq.mpr c41
           clear c41
           by_cases c42 : t423 = 0
           ·
            rw [if_pos c42] at H
            have c42b0 : (t423 == 0) = true := beq_iff_eq.mpr c42
            have c42b1 : (t423 != 0) = false := bne_eq_false_iff_eq.mpr c42
            clear c42
            by_cases c43 : t424 = 0
            ·
             rw [if_pos c43] at H
             have c43b0 : (t424 == 0) = true := beq_iff_eq.mpr c43
             have c43b1 : (t424 != 0) = false := bne_eq_false_iff_eq.mpr c43
             clear c43
             by_cases c44 : t425 = 8
             ·
              rw [if_pos c44] at H
              have c44b0 : (t425 == 8) = true := beq_iff_eq.mpr c44
              have c44b1 : (t425 != 8) = false := bne_eq_false_iff_eq.mpr c44
              clear c44
              by_cases c45 : t429 = 8
              ·
               rw [if_pos c45] at H
               have c45b0 : (t429 == 8) = true := beq_iff_eq.mpr c45
               have c45b1 : (t429 != 8) = false := bne_eq_false_iff_eq.mpr c45
               clear c45
               by_cases c46 : t440 = 3
               ·
                rw [if_pos c46] at H
                have c46b0 : (t440 == 3) = true := beq_iff_eq.mpr c46
                have c46b1 : (t440 != 3) = false := bne_eq_false_iff_eq.mpr c46
                clear c46
                obtain rfl := Option.some.inj H
                obtain ⟨Ao47, co47, eo47⟩ := Kd.R_slice HO_13.out
                subst eo47
                go_wp2_with (first | ((with_reducible refine gate_callee (f := 29) rfl ?_); refine goesL_ (some 53) rfl rfl Try.func29 (by kernel_rfl) rfl #[.slice Ao47 x13_1.length co47] rfl (by (try simp only [List.map_toArray, List.map_cons, List.map_nil]); first | done | rfl | (simp only [List.length_drop, List.length_take]; rfl)) ?_; (with_reducible refine (sect_Read.calls k1 _ _ x13_1 t446 t447 t448 t449 t450 t451 t452 t453 t454 t455 t456 _ ?side1 ?side2 A34.out).mono ?_); (case side1 => repeat (first | exact (Kd.R_reads' HO_13.out).2.2 | (with_reducible refine Kd.C_alloc ?_ _) | (with_reducible refine Kd.C_drewN ?_ _) | (with_reducible refine Kd.C_drew ?_))); (case side2 => exact (Kd.R_reads' HO_13.out).2.1); rintro e w48 ⟨rfl, hb⟩; refine ⟨_, rfl, ?_⟩; have n0_ := Aside0.mk (Kd.R_below (by (with_reducible repeat (first | apply Kd.R_alloc | apply Kd.R_drewN | apply Kd.R_drew)); exact HO_13.out) hb); have n1_ := Aside0.mk (blk_below (g := gb441) (o := .cells #[.int .i64 t430, .int .i64 t431, .int .i64 t432, .int .i64 t433, .int .i64 t434, .int .i64 t435, .int .i64 t436, .int .i64 t437, .int .i64 t438, .int .i64 t439] 23 (0, 0)) (by (with_reducible repeat (first | refine blk_drewN ?_ _ | refine blk_drew ?_ | refine blk_alloc ?_ _)); exact BK441.out) hb); have n2_ := Aside0.mk (below_step (by repeat (first | (with_reducible first | exact HB.out | apply below_alloc | apply pw_below_drewN | apply below_drew1 | refine below_set ?_ GE441.out) | exact HB.out)) hb); clear HO_13; clear BK441; clear HB; have HO_13 := n0_; have BK441 := n1_; have HB := n2_; clear n0_ n1_ n2_; (try clear hb); (try clear hb2); (try clear hk); (try clear hi)) | ((with_reducible refine gate_dst (N := 15) rfl ?_); refine box_event ?hg (N := 15) ?hd (cs := #[.int .i64 0, .int .i64 0, .int .i64 0, .int .i64 0, .int .i64 0, .int .i64 0, .int .i64 0, .int .i64 0, .int .i64 0, .int .i64 0]) (t := 23) ?hr ?_; (case hd => rfl); (case hg => rfl); (case hr => first | (go_simp; done) | (go_simp; rfl)); intro gb457 hg w49 hbox hb; have n0_ := Aside0.mk (Kd.R_below (by (with_reducible repeat (first | apply Kd.R_alloc | apply Kd.R_drewN | apply Kd.R_drew)); exact HO_13.out) hb); have n1_ := Aside0.mk (blk_below (g := gb441) (o := .cells #[.int .i64 t430, .int .i64 t431, .int .i64 t432, .int .i64 t433, .int .i64 t434, .int .i64 t435, .int .i64 t436, .int .i64 t437, .int .i64 t438, .int .i64 t439] 23 (0, 0)) (by (with_reducible repeat (first | refine blk_drewN ?_ _ | refine blk_drew ?_ | refine blk_alloc ?_ _)); exact BK441.out) hb); have n2_ := Aside0.mk (below_step (by repeat (first | (with_reducible first | exact HB.out | apply below_alloc | apply pw_below_drewN | apply below_drew1 | refine below_set ?_ GE441.out) | exact HB.out)) hb); have n3_ := Aside0.mk (hbox); have n4_ := Aside0.mk ((by rw [hg]; exact (below_size (by repeat (first | (with_reducible first | exact HB.out | apply below_alloc | apply pw_below_drewN | apply below_drew1 | refine below_set ?_ GE441.out) | exact HB.out))) : w.heap.size ≤ gb457)); have n5_ := Aside0.mk ((by rw [hg]; exact (below_size (by repeat (first | (with_reducible first | exact HB.out | apply below_alloc | apply pw_below_drewN | apply below_drew1 | refine below_set ?_ GE441.out) | exact HB.out))) : w.heap.size ≤ gb457)); have n6_ := Aside0.mk ((by rw [hg]; exact Nat.ne_of_lt (blk_lt (g := gb441) (o := .cells #[.int .i64 t430, .int .i64 t431, .int .i64 t432, .int .i64 t433, .int .i64 t434, .int .i64 t435, .int .i64 t436, .int .i64 t437, .int .i64 t438, .int .i64 t439] 23 (0, 0)) (by (with_reducible repeat (first | refine blk_drewN ?_ _ | refine blk_drew ?_ | refine blk_alloc ?_ _)); exact BK441.out)) : gb441 ≠ gb457)); have n7_ := Aside0.mk ((by rw [hg]; exact Nat.ne_of_gt (blk_lt (g := gb441) (o := .cells #[.int .i64 t430, .int .i64 t431, .int .i64 t432, .int .i64 t433, .int .i64 t434, .int .i64 t435, .int .i64 t436, .int .i64 t437, .int .i64 t438, .int .i64 t439] 23 (0, 0)) (by (with_reducible repeat (first | refine blk_drewN ?_ _ | refine blk_drew ?_ | refine blk_alloc ?_ _)); exact BK441.out)) : gb457 ≠ gb441)); clear HO_13; clear BK441; clear HB; have HO_13 := n0_; have BK441 := n1_; have HB := n2_; have BK457 := n3_; have GW457 := n4_; have GE457 := n5_; have NB441_457 := n6_; have NB457_441 := n7_; clear n0_ n1_ n2_ n3_ n4_ n5_ n6_ n7_; clear hb hbox hg; have hnb50 := NB457_441.out; have hnc50 := NB441_457.out; have hcz51_0 : w49.cell? ⟨gb457, 0, none⟩ = some (.int .i64 0) := (blk_cell BK457.out 0).trans rfl; have hcz51_1 : w49.cell? ⟨gb457, 1, none⟩ = some (.int .i64 0) := (blk_cell BK457.out 1).trans rfl; have hcz51_2 : w49.cell? ⟨gb457, 2, none⟩ = some (.int .i64 0) := (blk_cell BK457.out 2).trans rfl; have hcz51_3 : w49.cell? ⟨gb457, 3, none⟩ = some (.int .i64 0) := (blk_cell BK457.out 3).trans rfl; have hcz51_4 : w49.cell? ⟨gb457, 4, none⟩ = some (.int .i64 0) := (blk_cell BK457.out 4).trans rfl; have hcz51_5 : w49.cell? ⟨gb457, 5, none⟩ = some (.int .i64 0) := (blk_cell BK457.out 5).trans rfl; have hcz51_6 : w49.cell? ⟨gb457, 6, none⟩ = some (.int .i64 0) := (blk_cell BK457.out 6).trans rfl; have hcz51_7 : w49.cell? ⟨gb457, 7, none⟩ = some (.int .i64 0) := (blk_cell BK457.out 7).trans rfl; have hcz51_8 : w49.cell? ⟨gb457, 8, none⟩ = some (.int .i64 0) := (blk_cell BK457.out 8).trans rfl; have hcz51_9 : w49.cell? ⟨gb457, 9, none⟩ = some (.int .i64 0) := (blk_cell BK457.out 9).trans rfl; have hfz51_0 := blk_frozen BK457.out 0; have hfz51_1 := blk_frozen BK457.out 1; have hfz51_2 := blk_frozen BK457.out 2; have hfz51_3 := blk_frozen BK457.out 3; have hfz51_4 := blk_frozen BK457.out 4; have hfz51_5 := blk_frozen BK457.out 5; have hfz51_6 := blk_frozen BK457.out 6; have hfz51_7 := blk_frozen BK457.out 7; have hfz51_8 := blk_frozen BK457.out 8; have hfz51_9 := blk_frozen BK457.out 9) | (go_at_call 31; (with_reducible refine (quoinlaw09_alive.calls k1  true _ A35.out).mono ?_); rintro e w52 ⟨rfl, hb⟩; have n0_ := Aside0.mk (Kd.R_below (by (with_reducible repeat (first | apply Kd.R_alloc | apply Kd.R_drewN | apply Kd.R_drew)); exact (Kd.R_mono (Kd.R_far (p := ⟨gb457, 9, none⟩) (Kd.R_far (p := ⟨gb457, 8, none⟩) (Kd.R_far (p := ⟨gb457, 7, none⟩) (Kd.R_far (p := ⟨gb457, 6, none⟩) (Kd.R_far (p := ⟨gb457, 5, none⟩) (Kd.R_far (p := ⟨gb457, 4, none⟩) (Kd.R_far (p := ⟨gb457, 3, none⟩) (Kd.R_far (p := ⟨gb457, 2, none⟩) (Kd.R_far (p := ⟨gb457, 1, none⟩) (Kd.R_far (p := ⟨gb457, 0, none⟩) (Kd.R_types HO_13.out BK457.out (by decide)) (fun _ hk => hk.2) (.int .i64 t446)) (fun _ hk => hk.2) (.int .i64 t447)) (fun _ hk => hk.2) (.int .i64 t448)) (fun _ hk => hk.2) (.int .i64 t449)) (fun _ hk => hk.2) (.int .i64 t450)) (fun _ hk => hk.2) (.int .i64 t451)) (fun _ hk => hk.2) (.int .i64 t452)) (fun _ hk => hk.2) (.int .i64 t453)) (fun _ hk => hk.2) (.int .i64 t454)) (fun _ hk => hk.2) (.int .i64 t455)) (fun _ h_ => h_.1))) hb); have n1_ := Aside0.mk (blk_below (g := gb441) (o := .cells #[.int .i64 t430, .int .i64 t431, .int .i64 t432, .int .i64 t433, .int .i64 t434, .int .i64 t435, .int .i64 t436, .int .i64 t437, .int .i64 t438, .int .i64 t439] 23 (0, 0)) (by (with_reducible repeat (first | refine blk_drewN ?_ _ | refine blk_drew ?_ | refine blk_alloc ?_ _)); refine blk_far ?_ NB441_457.out _; (with_reducible repeat (first | refine blk_drewN ?_ _ | refine blk_drew ?_ | refine blk_alloc ?_ _)); refine blk_far ?_ NB441_457.out _; (with_reducible repeat (first | refine blk_drewN ?_ _ | refine blk_drew ?_ | refine blk_alloc ?_ _)); refine blk_far ?_ NB441_457.out _; (with_reducible repeat (first | refine blk_drewN ?_ _ | refine blk_drew ?_ | refine blk_alloc ?_ _)); refine blk_far ?_ NB441_457.out _; (with_reducible repeat (first | refine blk_drewN ?_ _ | refine blk_drew ?_ | refine blk_alloc ?_ _)); refine blk_far ?_ NB441_457.out _; (with_reducible repeat (first | refine blk_drewN ?_ _ | refine blk_drew ?_ | refine blk_alloc ?_ _)); refine blk_far ?_ NB441_457.out _; (with_reducible repeat (first | refine blk_drewN ?_ _ | refine blk_drew ?_ | refine blk_alloc ?_ _)); refine blk_far ?_ NB441_457.out _; (with_reducible repeat (first | refine blk_drewN ?_ _ | refine blk_drew ?_ | refine blk_alloc ?_ _)); refine blk_far ?_ NB441_457.out _; (with_reducible repeat (first | refine blk_drewN ?_ _ | refine blk_drew ?_ | refine blk_alloc ?_ _)); refine blk_far ?_ NB441_457.out _; (with_reducible repeat (first | refine blk_drewN ?_ _ | refine blk_drew ?_ | refine blk_alloc ?_ _)); refine blk_far ?_ NB441_457.out _; (with_reducible repeat (first | refine blk_drewN ?_ _ | refine blk_drew ?_ | refine blk_alloc ?_ _)); exact BK441.out) hb); have n2_ := Aside0.mk (blk_below (g := gb457) (o := .cells #[.int .i64 t446, .int .i64 t447, .int .i64 t448, .int .i64 t449, .int .i64 t450, .int .i64 t451, .int .i64 t452, .int .i64 t453, .int .i64 t454, .int .i64 t455] 23 (0, 0)) (by (with_reducible repeat (first | refine blk_drewN ?_ _ | refine blk_drew ?_ | refine blk_alloc ?_ _)); refine blk_put (cs := #[.int .i64 t446, .int .i64 t447, .int .i64 t448, .int .i64 t449, .int .i64 t450, .int .i64 t451, .int .i64 t452, .int .i64 t453, .int .i64 t454, .int .i64 0]) ?_ 9 _ rfl; (with_reducible repeat (first | refine blk_drewN ?_ _ | refine blk_drew ?_ | refine blk_alloc ?_ _)); refine blk_put (cs := #[.int .i64 t446, .int .i64 t447, .int .i64 t448, .int .i64 t449, .int .i64 t450, .int .i64 t451, .int .i64 t452, .int .i64 t453, .int .i64 0, .int .i64 0]) ?_ 8 _ rfl; (with_reducible repeat (first | refine blk_drewN ?_ _ | refine blk_drew ?_ | refine blk_alloc ?_ _)); refine blk_put (cs := #[.int .i64 t446, .int .i64 t447, .int .i64 t448, .int .i64 t449, .int .i64 t450, .int .i64 t451, .int .i64 t452, .int .i64 0, .int .i64 0, .int .i64 0]) ?_ 7 _ rfl; (with_reducible repeat (first | refine blk_drewN ?_ _ | refine blk_drew ?_ | refine blk_alloc ?_ _)); refine blk_put (cs := #[.int .i64 t446, .int .i64 t447, .int .i64 t448, .int .i64 t449, .int .i64 t450, .int .i64 t451, .int .i64 0, .int .i64 0, .int .i64 0, .int .i64 0]) ?_ 6 _ rfl; (with_reducible repeat (first | refine blk_drewN ?_ _ | refine blk_drew ?_ | refine blk_alloc ?_ _)); refine blk_put (cs := #[.int .i64 t446, .int .i64 t447, .int .i64 t448, .int .i64 t449, .int .i64 t450, .int .i64 0, .int .i64 0, .int .i64 0, .int .i64 0, .int .i64 0]) ?_ 5 _ rfl; (with_reducible repeat (first | refine blk_drewN ?_ _ | refine blk_drew ?_ | refine blk_alloc ?_ _)); refine blk_put (cs := #[.int .i64 t446, .int .i64 t447, .int .i64 t448, .int .i64 t449, .int .i64 0, .int .i64 0, .int .i64 0, .int .i64 0, .int .i64 0, .int .i64 0]) ?_ 4 _ rfl; (with_reducible repeat (first | refine blk_drewN ?_ _ | refine blk_drew ?_ | refine blk_alloc ?_ _)); refine blk_put (cs := #[.int .i64 t446, .int .i64 t447, .int .i64 t448, .int .i64 0, .int .i64 0, .int .i64 0, .int .i64 0, .int .i64 0, .int .i64 0, .int .i64 0]) ?_ 3 _ rfl; (with_reducible repeat (first | refine blk_drewN ?_ _ | refine blk_drew ?_ | refine blk_alloc ?_ _)); refine blk_put (cs := #[.int .i64 t446, .int .i64 t447, .int .i64 0, .int .i64 0, .int .i64 0, .int .i64 0, .int .i64 0, .int .i64 0, .int .i64 0, .int .i64 0]) ?_ 2 _ rfl; (with_reducible repeat (first | refine blk_drewN ?_ _ | refine blk_drew ?_ | refine blk_alloc ?_ _)); refine blk_put (cs := #[.int .i64 t446, .int .i64 0, .int .i64 0, .int .i64 0, .int .i64 0, .int .i64 0, .int .i64 0, .int .i64 0, .int .i64 0, .int .i64 0]) ?_ 1 _ rfl; (with_reducible repeat (first | refine blk_drewN ?_ _ | refine blk_drew ?_ | refine blk_alloc ?_ _)); refine blk_put (cs := #[.int .i64 0, .int .i64 0, .int .i64 0, .int .i64 0, .int .i64 0, .int .i64 0, .int .i64 0, .int .i64 0, .int .i64 0, .int .i64 0]) ?_ 0 _ rfl; (with_reducible repeat (first | refine blk_drewN ?_ _ | refine blk_drew ?_ | refine blk_alloc ?_ _)); exact BK457.out) hb); have n3_ := Aside0.mk (below_step (by repeat (first | (with_reducible first | exact HB.out | apply below_alloc | apply pw_below_drewN | apply below_drew1 | refine below_set ?_ GE441.out | refine below_set ?_ GE457.out) | exact HB.out)) hb); clear HO_13; clear BK441; clear BK457; clear HB; have HO_13 := n0_; have BK441 := n1_; have BK457 := n2_; have HB := n3_; clear n0_ n1_ n2_ n3_; (try clear hb); (try clear hb2); (try clear hk); (try clear hi)))
                go_ret
                exact ⟨by first | rfl | (simp [errW_none, errW_some] <;> rfl) | (simp [*, errW_none, errW_some] <;> rfl), by repeat (first | (with_reducible first | exact HB.out | apply below_alloc | apply pw_below_drewN | apply below_drew1 | refine below_set ?_ GE441.out | refine below_set ?_ GE457.out) | exact HB.out)⟩
               ·
                rw [if_neg c46] at H
                exact absurd H (by simp)
              ·
               rw [if_neg c45] at H
               exact absurd H (by simp)
             ·
              rw [if_neg c44] at H
              exact absurd H (by simp)
            ·
             rw [if_neg c43] at H
             exact absurd H (by simp)
           ·
            rw [if_neg c42] at H
            exact absurd H (by simp)
          ·
           rw [if_neg c41] at H
           exact absurd H (by simp)
         ·
          rw [if_neg c40] at H
          exact absurd H (by simp)
        ·
         rw [if_neg c39] at H
         exact absurd H (by simp)
       ·
        rw [if_neg c38] at H
        exact absurd H (by simp)
      ·
       rw [if_neg c37] at H
       exact absurd H (by simp)
     ·
      replace c36 := Bool.eq_false_iff.mpr c36
      subst c36
      have H1 : (none) = some r := by rw [if_neg (show ¬ (false = true) by decide)] at H; exact H
      clear H
      have H := H1
      clear H1
      exact absurd H (by simp)
 ·
  rw [if_neg c9] at H
  exact absurd H (by simp)

/-- THE ONE PURE STATEMENT of quoinlaw09_SectNames: yours. -/
def quoinlaw09_SectNames.Pure : Prop := ∃ k, quoinlaw09_SectNames.f k  = some true
theorem quoinlaw09_SectNames.walk (P : quoinlaw09_SectNames.Pure)  (w : World)  :
  Calls Try.prog 9 #[] w fun e w' => e = .returned (.bool true) ∧ Below w.heap.size w w' := by
 obtain ⟨k, h⟩ := P  
 refine (quoinlaw09_SectNames.calls k  true w h).mono ?_
 rintro e w' ⟨rfl, hd⟩
 exact ⟨rfl, hd⟩

end Go.Proofs.Ytomabnfeipobnaa.P
