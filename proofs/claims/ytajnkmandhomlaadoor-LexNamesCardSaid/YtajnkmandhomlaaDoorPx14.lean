-- Written by pext.py, a program of this session, over the kit's print: a function's contract
import Derived.Test.YtajnkmandhomlaaDoorPx0
import Derived.Test.YtajnkmandhomlaaDoorPx3
import Derived.Test.YtajnkmandhomlaaDoorPx7
namespace Go.Proofs.YtajnkmandhomlaaDoor.P
open Go.RowKit Go.Proofs.YtajnkmandhomlaaDoorW.PrintWords Go.Proofs.YtajnkmandhomlaaDoorW.PrintLast Go.Proofs.YtajnkmandhomlaaDoorW.PrintMore
attribute [local go_sem] max2_int min2_int max_two min_two max_three min_three max_four min_four   -- for this text's walks alone
set_option linter.unusedVariables false
set_option linter.unusedSimpArgs false

/-! ### quoinlaw15_bad: function 20 -/
def quoinlaw15_bad.f (a0 : ByteArray) : Option (Bool) := (lex_Tokens.f a0).bind fun bt253 => (some (bt253.2 == 150))
set_option maxHeartbeats 8000000 in
set_option maxRecDepth 100000 in
theorem quoinlaw15_bad.calls (a0 : ByteArray) (r : Bool) (w : World) (hE : LexW.LexE w) (h : quoinlaw15_bad.f a0 = some r) :
  Calls Tryd.prog 20 #[.string a0] w fun e w' => e = .returned (.bool r) ∧ Below w.heap.size w w' := by
 have HE_ := Aside0.mk hE
 clear hE
 have HB := Aside0.mk (Below.refl w.heap.size w)
 have H : ((lex_Tokens.f a0).bind fun bt253 => (some (bt253.2 == 150))) = some r := h
 clear h
 replace H := Option.bind_eq_some_iff.mp H
 obtain ⟨⟨t253, t254⟩, A20, H⟩ := H
 replace H : (some (t254 == 150)) = some r := H
 have A2 := Aside0.mk A20
 clear A20
 obtain rfl := Option.some.inj H
 go_enter Tryd.func20, Tryd.ntmps20
 go_wp2_with (first | ((with_reducible refine gate_callee (f := 16) rfl ?_); refine goesL_ (some 7) rfl rfl Tryd.func16 (by kernel_rfl) rfl #[.string a0] rfl (by (try simp only [List.map_toArray, List.map_cons, List.map_nil]); first | done | rfl | (simp only [List.length_drop, List.length_take]; rfl)) ?_; (with_reducible refine (lex_Tokens.calls a0 t253 t254 _ ?side1 A2.out).mono ?_); (case side1 => exact HE_.out.below (by repeat (first | (with_reducible first | exact HB.out | apply below_alloc | apply pw_below_drewN | apply below_drew1) | exact HB.out))); rintro e w3 ⟨v255, rfl, ho0, hb⟩; refine ⟨_, rfl, ?_⟩; have n0_ := Aside0.mk (Kd.R_lower ho0 (below_size (by repeat (first | (with_reducible first | exact HB.out | apply below_alloc | apply pw_below_drewN | apply below_drew1) | exact HB.out)))); have n1_ := Aside0.mk (below_step (by repeat (first | (with_reducible first | exact HB.out | apply below_alloc | apply pw_below_drewN | apply below_drew1) | exact HB.out)) hb); clear HB; have HO256 := n0_; have HB := n1_; clear n0_ n1_; (try clear hb); (try clear hb2); (try clear hk); (try clear hi); (try clear ho0)))
 go_ret
 exact ⟨by first | rfl | (simp [errW_none, errW_some] <;> rfl) | (simp [*, errW_none, errW_some] <;> rfl), by repeat (first | (with_reducible first | exact HB.out | apply below_alloc | apply pw_below_drewN | apply below_drew1) | exact HB.out)⟩

/-! ### quoinlaw15_LexNames: function 6 -/
def quoinlaw15_LexNames.j0 : Nat → Bool → Option (Bool)
 | 0, _ => none
 | k + 1, x1 => if 257 ≤ 281474976710656 then ((lex_Tokens.f (strOfNums (List.replicate 257 0))).bind fun bt274 => ((quoinlaw15_alive.f k).bind fun t278 => (if t278 = true then (if x1 = true then ((quoinlaw15_bad.f (⟨#[49, 50, 97]⟩ : ByteArray)).bind fun t279 => (if t279 = true then ((quoinlaw15_bad.f (⟨#[49, 102, 120]⟩ : ByteArray)).bind fun t280 => (if t280 = true then ((quoinlaw15_bad.f (⟨#[48, 120]⟩ : ByteArray)).bind fun t281 => (if t281 = true then ((quoinlaw15_bad.f (⟨#[34, 97]⟩ : ByteArray)).bind fun t282 => (if t282 = true then ((quoinlaw15_bad.f (⟨#[97, 64, 98]⟩ : ByteArray)).bind fun t283 => (if t283 = true then (if bt274.2 = 3 then ((quoinlaw15_word.f (⟨#[49]⟩ : ByteArray)).bind fun bt284 => ((lex_Check.f k bt284.1 bt284.2.1 bt284.2.2).bind fun t287 => (if t287 = 8 then ((quoinlaw15_number.f 7).bind fun bt288 => ((lex_Check.f k bt288.1 bt288.2.1 bt288.2.2).bind fun t291 => (some (t291 == 0)))) else (none)))) else (none)) else (none))) else (none))) else (none))) else (none))) else (none))) else (none)) else (none)))) else (none)
def quoinlaw15_LexNames.f (k : Nat)  : Option (Bool) := (quoinlaw15_word.f (⟨#[46, 97, 115, 99, 105, 105]⟩ : ByteArray)).bind fun bt257 => ((quoinlaw15_is.f k (⟨#[46, 97, 115, 99, 105, 105, 32, 34, 97, 92, 110, 34]⟩ : ByteArray) (([(⟨bt257.1, bt257.2.1, bt257.2.2⟩ : S23), (⟨3, (⟨#[97, 10]⟩ : ByteArray), 0⟩ : S23)] : List (S23)))).bind fun t263 => (if t263 = true then ((quoinlaw15_number.f (-1)).bind fun bt264 => ((quoinlaw15_is.f k (⟨#[48, 120, 102, 102, 102, 102, 102, 102, 102, 102, 102, 102, 102, 102, 102, 102, 102, 102]⟩ : ByteArray) (([(⟨bt264.1, bt264.2.1, bt264.2.2⟩ : S23)] : List (S23)))).bind fun t270 => (quoinlaw15_LexNames.j0 k t270))) else (quoinlaw15_LexNames.j0 k false)))
theorem quoinlaw15_LexNames.mono_l : ∀ k, (∀ y0, LeO (quoinlaw15_LexNames.j0 k y0) (quoinlaw15_LexNames.j0 (k + 1) y0))
 | 0 => fun _ r h => by simp [quoinlaw15_LexNames.j0] at h
 | k + 1 => by
  have ih0 := quoinlaw15_LexNames.mono_l k
  ·
   intro y0
   unfold quoinlaw15_LexNames.j0
   repeat' first
   | (with_reducible exact ih0 _)
   | (with_reducible exact lex_Check.mono _ _ _ _)
   | (with_reducible exact quoinlaw15_alive.mono _)
   | (with_reducible exact quoinlaw15_is.mono _ _ _)
   | (with_reducible exact LeO.refl _)
   | (with_reducible exact LeO.none _)
   | (with_reducible refine LeO.ite ?_ ?_)
   | (with_reducible refine LeO.bind ?_ (fun _ => ?_))
   | exact ih0 _
   | exact lex_Check.mono _ _ _ _
   | exact quoinlaw15_alive.mono _
   | exact quoinlaw15_is.mono _ _ _
   | exact LeO.none _
   | refine LeO.ite ?_ ?_
   | refine LeO.bind ?_ (fun _ => ?_)
theorem quoinlaw15_LexNames.mono : ∀ k, LeO (quoinlaw15_LexNames.f k ) (quoinlaw15_LexNames.f (k + 1) ) := by
 intro  k
 have ih0 := quoinlaw15_LexNames.mono_l k
 unfold quoinlaw15_LexNames.f
 repeat' first
   | (with_reducible exact ih0 _)
   | (with_reducible exact lex_Check.mono _ _ _ _)
   | (with_reducible exact quoinlaw15_alive.mono _)
   | (with_reducible exact quoinlaw15_is.mono _ _ _)
   | (with_reducible exact LeO.refl _)
   | (with_reducible exact LeO.none _)
   | (with_reducible refine LeO.ite ?_ ?_)
   | (with_reducible refine LeO.bind ?_ (fun _ => ?_))
   | exact ih0 _
   | exact lex_Check.mono _ _ _ _
   | exact quoinlaw15_alive.mono _
   | exact quoinlaw15_is.mono _ _ _
   | exact LeO.none _
   | refine LeO.ite ?_ ?_
   | refine LeO.bind ?_ (fun _ => ?_)
set_option maxHeartbeats 8000000 in
set_option maxRecDepth 100000 in
theorem quoinlaw15_LexNames.calls (k : Nat)  (r : Bool) (w : World) (hT : Lib.TabIs Tryd.prog w "internal/strconv.uint64pow10" .u64 Lib.pow10Tab) (hD : LexW.LexD w) (hE : LexW.LexE w) (h : quoinlaw15_LexNames.f k  = some r) :
  Calls Tryd.prog 6 #[] w fun e w' => e = .returned (.bool r) ∧ Below w.heap.size w w' := by
 have hu23 := Tryd.underlying23
 have HT := Aside0.mk hT
 clear hT
 have HD_ := Aside0.mk hD
 clear hD
 have HE_ := Aside0.mk hE
 clear hE
 have HB := Aside0.mk (Below.refl w.heap.size w)
 have H : ((quoinlaw15_word.f (⟨#[46, 97, 115, 99, 105, 105]⟩ : ByteArray)).bind fun bt257 => ((quoinlaw15_is.f k (⟨#[46, 97, 115, 99, 105, 105, 32, 34, 97, 92, 110, 34]⟩ : ByteArray) (([(⟨bt257.1, bt257.2.1, bt257.2.2⟩ : S23), (⟨3, (⟨#[97, 10]⟩ : ByteArray), 0⟩ : S23)] : List (S23)))).bind fun t263 => (if t263 = true then ((quoinlaw15_number.f (-1)).bind fun bt264 => ((quoinlaw15_is.f k (⟨#[48, 120, 102, 102, 102, 102, 102, 102, 102, 102, 102, 102, 102, 102, 102, 102, 102, 102]⟩ : ByteArray) (([(⟨bt264.1, bt264.2.1, bt264.2.2⟩ : S23)] : List (S23)))).bind fun t270 => (quoinlaw15_LexNames.j0 k t270))) else (quoinlaw15_LexNames.j0 k false)))) = some r := h
 clear h
 have HC1 := Aside0.mk H
 clear H
 go_enter Tryd.func6, Tryd.ntmps6
 go_upto_region 1 with (fail)
 go_cut [1] (fun v1 wc => ∃ (kq : Nat) (x1_0 : Bool), v1 = .bool x1_0 ∧ Aside0 (quoinlaw15_LexNames.j0 kq x1_0 = some r) ∧ Aside0 (kq ≤ k) ∧ Aside0 (Below w.heap.size w wc))
 case first =>
  have H := HC1.out
  clear HC1
  replace H := Option.bind_eq_some_iff.mp H
  obtain ⟨⟨t257, t258, t259⟩, A20, H⟩ := H
  replace H : ((quoinlaw15_is.f k (⟨#[46, 97, 115, 99, 105, 105, 32, 34, 97, 92, 110, 34]⟩ : ByteArray) (([(⟨t257, t258, t259⟩ : S23), (⟨3, (⟨#[97, 10]⟩ : ByteArray), 0⟩ : S23)] : List (S23)))).bind fun t263 => (if t263 = true then ((quoinlaw15_number.f (-1)).bind fun bt264 => ((quoinlaw15_is.f k (⟨#[48, 120, 102, 102, 102, 102, 102, 102, 102, 102, 102, 102, 102, 102, 102, 102, 102, 102]⟩ : ByteArray) (([(⟨bt264.1, bt264.2.1, bt264.2.2⟩ : S23)] : List (S23)))).bind fun t270 => (quoinlaw15_LexNames.j0 k t270))) else (quoinlaw15_LexNames.j0 k false))) = some r := H
  have A2 := Aside0.mk A20
  clear A20
  obtain ⟨y260, hy260⟩ : ∃ y_ : List (S23), y_ = (([(⟨t257, t258, t259⟩ : S23), (⟨3, (⟨#[97, 10]⟩ : ByteArray), 0⟩ : S23)] : List (S23))) := ⟨_, rfl⟩
  replace H : ((quoinlaw15_is.f k (⟨#[46, 97, 115, 99, 105, 105, 32, 34, 97, 92, 110, 34]⟩ : ByteArray) y260).bind fun t263 => (if t263 = true then ((quoinlaw15_number.f (-1)).bind fun bt264 => ((quoinlaw15_is.f k (⟨#[48, 120, 102, 102, 102, 102, 102, 102, 102, 102, 102, 102, 102, 102, 102, 102, 102, 102]⟩ : ByteArray) (([(⟨bt264.1, bt264.2.1, bt264.2.2⟩ : S23)] : List (S23)))).bind fun t270 => (quoinlaw15_LexNames.j0 k t270))) else (quoinlaw15_LexNames.j0 k false))) = some r := by first | (rw [hy260]; with_reducible exact H) | (have H2_ := (Option.bind_some _ _).symm.trans H; rw [hy260]; with_reducible exact H2_) | (have H2_ := (Option.bind_some _ _).symm.trans H; with_reducible exact H2_) | with_reducible exact H | (rw [hy260]; exact H) | exact H
  have Ny260 := Aside0.mk hy260
  clear hy260
  replace H := Option.bind_eq_some_iff.mp H
  obtain ⟨t263, A30, H⟩ := H
  replace H : (if t263 = true then ((quoinlaw15_number.f (-1)).bind fun bt264 => ((quoinlaw15_is.f k (⟨#[48, 120, 102, 102, 102, 102, 102, 102, 102, 102, 102, 102, 102, 102, 102, 102, 102, 102]⟩ : ByteArray) (([(⟨bt264.1, bt264.2.1, bt264.2.2⟩ : S23)] : List (S23)))).bind fun t270 => (quoinlaw15_LexNames.j0 k t270))) else (quoinlaw15_LexNames.j0 k false)) = some r := H
  have A3 := Aside0.mk A30
  clear A30
  by_cases c4 : t263 = true
  ·
   subst c4
   have H1 : ((quoinlaw15_number.f (-1)).bind fun bt264 => ((quoinlaw15_is.f k (⟨#[48, 120, 102, 102, 102, 102, 102, 102, 102, 102, 102, 102, 102, 102, 102, 102, 102, 102]⟩ : ByteArray) (([(⟨bt264.1, bt264.2.1, bt264.2.2⟩ : S23)] : List (S23)))).bind fun t270 => (quoinlaw15_LexNames.j0 k t270))) = some r := by rw [if_pos rfl] at H; exact H
   clear H
   have H := H1
   clear H1
   replace H := Option.bind_eq_some_iff.mp H
   obtain ⟨⟨t264, t265, t266⟩, A50, H⟩ := H
   replace H : ((quoinlaw15_is.f k (⟨#[48, 120, 102, 102, 102, 102, 102, 102, 102, 102, 102, 102, 102, 102, 102, 102, 102, 102]⟩ : ByteArray) (([(⟨t264, t265, t266⟩ : S23)] : List (S23)))).bind fun t270 => (quoinlaw15_LexNames.j0 k t270)) = some r := H
   have A5 := Aside0.mk A50
   clear A50
   obtain ⟨y267, hy267⟩ : ∃ y_ : List (S23), y_ = (([(⟨t264, t265, t266⟩ : S23)] : List (S23))) := ⟨_, rfl⟩
   replace H : ((quoinlaw15_is.f k (⟨#[48, 120, 102, 102, 102, 102, 102, 102, 102, 102, 102, 102, 102, 102, 102, 102, 102, 102]⟩ : ByteArray) y267).bind fun t270 => (quoinlaw15_LexNames.j0 k t270)) = some r := by first | (rw [hy267]; with_reducible exact H) | (have H2_ := (Option.bind_some _ _).symm.trans H; rw [hy267]; with_reducible exact H2_) | (have H2_ := (Option.bind_some _ _).symm.trans H; with_reducible exact H2_) | with_reducible exact H | (rw [hy267]; exact H) | exact H
   have Ny267 := Aside0.mk hy267
   clear hy267
   replace H := Option.bind_eq_some_iff.mp H
   obtain ⟨t270, A60, H⟩ := H
   replace H : (quoinlaw15_LexNames.j0 k t270) = some r := H
   have A6 := Aside0.mk A60
   clear A60
   have H' := Aside0.mk H
   clear H
   go_wp2_with (first | ((with_reducible refine gate_callee (f := 18) rfl ?_); refine goesL_ (some 4) rfl rfl Tryd.func18 (by kernel_rfl) rfl #[.string (⟨#[46, 97, 115, 99, 105, 105]⟩ : ByteArray)] rfl (by (try simp only [List.map_toArray, List.map_cons, List.map_nil]); first | done | rfl | (simp only [List.length_drop, List.length_take]; rfl)) ?_; (with_reducible refine (quoinlaw15_word.calls (⟨#[46, 97, 115, 99, 105, 105]⟩ : ByteArray) t257 t258 t259 _ A2.out).mono ?_); rintro e w7 ⟨rfl, hb⟩; refine ⟨_, rfl, ?_⟩; have n0_ := Aside0.mk (below_step (by repeat (first | (with_reducible first | exact HB.out | apply below_alloc | apply pw_below_drewN | apply below_drew1) | exact HB.out)) hb); clear HB; have HB := n0_; clear n0_; (try clear hb); (try clear hb2); (try clear hk); (try clear hi)) | ((with_reducible refine gate_dst (N := 6) rfl ?_); (try (refine gate_guard (by rfl) ?_; dsimp only)); refine Kd.R_lit k23 _ 23 ?hg (N := 6) ?hd (xs := ([(⟨t257, t258, t259⟩ : S23), (⟨3, (⟨#[97, 10]⟩ : ByteArray), 0⟩ : S23)] : List (S23))) (inner := [.int .u8 t257, .string t258, .int .i64 t259, .int .u8 3, .string (⟨#[97, 10]⟩ : ByteArray), .int .i64 0]) (ok := fun _ => True) (okp := fun _ => True) ?hr ?hp (fun _ hk => hk) trivial (Below.refl _ _) (Nat.le_refl _) (by simp) ?_; (case hd => rfl); (case hg => rfl); (case hr => first | (go_simp; done) | (go_simp; rfl)); (case hp => exact (Reps.c3 (show Kd.M k23 _ _ _ (⟨t257, t258, t259⟩ : S23) [.int .u8 t257, .string t258, .int .i64 t259] from (k23_mkM _ _ _ (⟨t257, t258, t259⟩ : S23) )) (Reps.c3 (show Kd.M k23 _ _ _ (⟨3, (⟨#[97, 10]⟩ : ByteArray), 0⟩ : S23) [.int .u8 3, .string (⟨#[97, 10]⟩ : ByteArray), .int .i64 0] from (k23_mkM _ _ _ (⟨3, (⟨#[97, 10]⟩ : ByteArray), 0⟩ : S23) )) (Reps.none _ _)))); intro v261 w8 ho9 hb hg_ hnew_; clear hg_ hnew_; (first | rw [← Ny260.out] at ho9 | (simp only [Int.reduceToNat] at ho9; rw [← Ny260.out] at ho9)); have n0_ := Aside0.mk (Kd.R_lower ho9 (below_size (by repeat (first | (with_reducible first | exact HB.out | apply below_alloc | apply pw_below_drewN | apply below_drew1) | exact HB.out)))); have n1_ := Aside0.mk (below_step (by repeat (first | (with_reducible first | exact HB.out | apply below_alloc | apply pw_below_drewN | apply below_drew1) | exact HB.out)) hb); clear HB; have HO262 := n0_; have HB := n1_; clear n0_ n1_; clear hb ho9; obtain ⟨Ao10, co10, eo10⟩ := Kd.R_slice HO262.out; subst eo10) | ((with_reducible refine gate_callee (f := 17) rfl ?_); refine goesL_ (some 7) rfl rfl Tryd.func17 (by kernel_rfl) rfl #[.string (⟨#[46, 97, 115, 99, 105, 105, 32, 34, 97, 92, 110, 34]⟩ : ByteArray), .slice Ao10 y260.length co10] rfl (by (try simp only [List.map_toArray, List.map_cons, List.map_nil]); first | done | rfl | (simp only [List.length_drop, List.length_take]; rfl)) ?_; (with_reducible refine (quoinlaw15_is.calls k (⟨#[46, 97, 115, 99, 105, 105, 32, 34, 97, 92, 110, 34]⟩ : ByteArray) _ _ y260 true _ ?side1 ?side2 ?side3 A3.out).mono ?_); (case side1 => repeat (first | exact (Kd.R_reads' HO262.out).2.2 | (with_reducible refine Kd.C_alloc ?_ _) | (with_reducible refine Kd.C_drewN ?_ _) | (with_reducible refine Kd.C_drew ?_))); (case side2 => exact (Kd.R_reads' HO262.out).2.1); (case side3 => exact HE_.out.below (by repeat (first | (with_reducible first | exact HB.out | apply below_alloc | apply pw_below_drewN | apply below_drew1) | exact HB.out))); rintro e w11 ⟨rfl, hb⟩; refine ⟨_, rfl, ?_⟩; have n0_ := Aside0.mk (Kd.R_below (by (with_reducible repeat (first | apply Kd.R_alloc | apply Kd.R_drewN | apply Kd.R_drew)); exact HO262.out) hb); have n1_ := Aside0.mk (below_step (by repeat (first | (with_reducible first | exact HB.out | apply below_alloc | apply pw_below_drewN | apply below_drew1) | exact HB.out)) hb); clear HO262; clear HB; have HO262 := n0_; have HB := n1_; clear n0_ n1_; (try clear hb); (try clear hb2); (try clear hk); (try clear hi)) | (go_at_call 19; (with_reducible refine (quoinlaw15_number.calls (-1) t264 t265 t266 _ A5.out).mono ?_); rintro e w12 ⟨rfl, hb⟩; have n0_ := Aside0.mk (Kd.R_below (by (with_reducible repeat (first | apply Kd.R_alloc | apply Kd.R_drewN | apply Kd.R_drew)); exact HO262.out) hb); have n1_ := Aside0.mk (below_step (by repeat (first | (with_reducible first | exact HB.out | apply below_alloc | apply pw_below_drewN | apply below_drew1) | exact HB.out)) hb); clear HO262; clear HB; have HO262 := n0_; have HB := n1_; clear n0_ n1_; (try clear hb); (try clear hb2); (try clear hk); (try clear hi)) | ((with_reducible refine gate_dst (N := 10) rfl ?_); (try (refine gate_guard (by rfl) ?_; dsimp only)); refine Kd.R_lit k23 _ 23 ?hg (N := 10) ?hd (xs := ([(⟨t264, t265, t266⟩ : S23)] : List (S23))) (inner := [.int .u8 t264, .string t265, .int .i64 t266]) (ok := fun _ => True) (okp := fun _ => True) ?hr ?hp (fun _ hk => hk) trivial (Below.refl _ _) (Nat.le_refl _) (by simp) ?_; (case hd => rfl); (case hg => rfl); (case hr => first | (go_simp; done) | (go_simp; rfl)); (case hp => exact (Reps.c3 (show Kd.M k23 _ _ _ (⟨t264, t265, t266⟩ : S23) [.int .u8 t264, .string t265, .int .i64 t266] from (k23_mkM _ _ _ (⟨t264, t265, t266⟩ : S23) )) (Reps.none _ _))); intro v268 w13 ho14 hb hg_ hnew_; clear hg_ hnew_; (first | rw [← Ny267.out] at ho14 | (simp only [Int.reduceToNat] at ho14; rw [← Ny267.out] at ho14)); have n0_ := Aside0.mk (Kd.R_elder' (by (with_reducible repeat (first | apply Kd.R_alloc | apply Kd.R_drewN | apply Kd.R_drew)); exact HO262.out) (Kd.R_base ho14) hb); have n1_ := Aside0.mk (Kd.R_lower (Kd.R_new' ho14 (Kd.R_lt (by (with_reducible repeat (first | apply Kd.R_alloc | apply Kd.R_drewN | apply Kd.R_drew)); exact HO262.out))) (below_size (by repeat (first | (with_reducible first | exact HB.out | apply below_alloc | apply pw_below_drewN | apply below_drew1) | exact HB.out)))); have n2_ := Aside0.mk (below_step (by repeat (first | (with_reducible first | exact HB.out | apply below_alloc | apply pw_below_drewN | apply below_drew1) | exact HB.out)) hb); clear HO262; clear HB; have HO262 := n0_; have HO269 := n1_; have HB := n2_; clear n0_ n1_ n2_; clear hb ho14; obtain ⟨Ao15, co15, eo15⟩ := Kd.R_slice HO269.out; subst eo15) | (go_at_call 17; (with_reducible refine (quoinlaw15_is.calls k (⟨#[48, 120, 102, 102, 102, 102, 102, 102, 102, 102, 102, 102, 102, 102, 102, 102, 102, 102]⟩ : ByteArray) _ _ y267 t270 _ ?side1 ?side2 ?side3 A6.out).mono ?_); (case side1 => repeat (first | exact (Kd.R_reads' HO269.out).2.2 | (with_reducible refine Kd.C_alloc ?_ _) | (with_reducible refine Kd.C_drewN ?_ _) | (with_reducible refine Kd.C_drew ?_))); (case side2 => exact (Kd.R_reads' HO269.out).2.1); (case side3 => exact HE_.out.below (by repeat (first | (with_reducible first | exact HB.out | apply below_alloc | apply pw_below_drewN | apply below_drew1) | exact HB.out))); rintro e w16 ⟨rfl, hb⟩; have n0_ := Aside0.mk (Kd.R_below (by (with_reducible repeat (first | apply Kd.R_alloc | apply Kd.R_drewN | apply Kd.R_drew)); exact HO262.out) hb); have n1_ := Aside0.mk (Kd.R_below (by (with_reducible repeat (first | apply Kd.R_alloc | apply Kd.R_drewN | apply Kd.R_drew)); exact HO269.out) hb); have n2_ := Aside0.mk (below_step (by repeat (first | (with_reducible first | exact HB.out | apply below_alloc | apply pw_below_drewN | apply below_drew1) | exact HB.out)) hb); clear HO262; clear HO269; clear HB; have HO262 := n0_; have HO269 := n1_; have HB := n2_; clear n0_ n1_ n2_; (try clear hb); (try clear hb2); (try clear hk); (try clear hi)))
   go_meet
   case rel => exact ⟨_, (t270), (by first | rfl | (simp; done) | (simp [*]; done) | (simp [show (⟨#[32, 9]⟩ : ByteArray).size = 2 from rfl, show (⟨#[32, 9, 35, 32, 97, 32, 114, 101, 109, 97, 114, 107, 58, 32, 34, 32, 44]⟩ : ByteArray).size = 17 from rfl]; done)), H', ⟨by first | omega | exact Nat.le_refl _⟩, ⟨by repeat (first | (with_reducible first | exact HB.out | apply below_alloc | apply pw_below_drewN | apply below_drew1) | exact HB.out)⟩⟩
  ·
   replace c4 := Bool.eq_false_iff.mpr c4
   subst c4
   have H1 : (quoinlaw15_LexNames.j0 k false) = some r := by rw [if_neg (show ¬ (false = true) by decide)] at H; exact H
   clear H
   have H := H1
   clear H1
   have H' := Aside0.mk H
   clear H
   go_wp2_with (first | ((with_reducible refine gate_callee (f := 18) rfl ?_); refine goesL_ (some 4) rfl rfl Tryd.func18 (by kernel_rfl) rfl #[.string (⟨#[46, 97, 115, 99, 105, 105]⟩ : ByteArray)] rfl (by (try simp only [List.map_toArray, List.map_cons, List.map_nil]); first | done | rfl | (simp only [List.length_drop, List.length_take]; rfl)) ?_; (with_reducible refine (quoinlaw15_word.calls (⟨#[46, 97, 115, 99, 105, 105]⟩ : ByteArray) t257 t258 t259 _ A2.out).mono ?_); rintro e w17 ⟨rfl, hb⟩; refine ⟨_, rfl, ?_⟩; have n0_ := Aside0.mk (below_step (by repeat (first | (with_reducible first | exact HB.out | apply below_alloc | apply pw_below_drewN | apply below_drew1) | exact HB.out)) hb); clear HB; have HB := n0_; clear n0_; (try clear hb); (try clear hb2); (try clear hk); (try clear hi)) | ((with_reducible refine gate_dst (N := 6) rfl ?_); (try (refine gate_guard (by rfl) ?_; dsimp only)); refine Kd.R_lit k23 _ 23 ?hg (N := 6) ?hd (xs := ([(⟨t257, t258, t259⟩ : S23), (⟨3, (⟨#[97, 10]⟩ : ByteArray), 0⟩ : S23)] : List (S23))) (inner := [.int .u8 t257, .string t258, .int .i64 t259, .int .u8 3, .string (⟨#[97, 10]⟩ : ByteArray), .int .i64 0]) (ok := fun _ => True) (okp := fun _ => True) ?hr ?hp (fun _ hk => hk) trivial (Below.refl _ _) (Nat.le_refl _) (by simp) ?_; (case hd => rfl); (case hg => rfl); (case hr => first | (go_simp; done) | (go_simp; rfl)); (case hp => exact (Reps.c3 (show Kd.M k23 _ _ _ (⟨t257, t258, t259⟩ : S23) [.int .u8 t257, .string t258, .int .i64 t259] from (k23_mkM _ _ _ (⟨t257, t258, t259⟩ : S23) )) (Reps.c3 (show Kd.M k23 _ _ _ (⟨3, (⟨#[97, 10]⟩ : ByteArray), 0⟩ : S23) [.int .u8 3, .string (⟨#[97, 10]⟩ : ByteArray), .int .i64 0] from (k23_mkM _ _ _ (⟨3, (⟨#[97, 10]⟩ : ByteArray), 0⟩ : S23) )) (Reps.none _ _)))); intro v261 w18 ho19 hb hg_ hnew_; clear hg_ hnew_; (first | rw [← Ny260.out] at ho19 | (simp only [Int.reduceToNat] at ho19; rw [← Ny260.out] at ho19)); have n0_ := Aside0.mk (Kd.R_lower ho19 (below_size (by repeat (first | (with_reducible first | exact HB.out | apply below_alloc | apply pw_below_drewN | apply below_drew1) | exact HB.out)))); have n1_ := Aside0.mk (below_step (by repeat (first | (with_reducible first | exact HB.out | apply below_alloc | apply pw_below_drewN | apply below_drew1) | exact HB.out)) hb); clear HB; have HO262 := n0_; have HB := n1_; clear n0_ n1_; clear hb ho19; obtain ⟨Ao20, co20, eo20⟩ := Kd.R_slice HO262.out; subst eo20) | ((with_reducible refine gate_callee (f := 17) rfl ?_); refine goesL_ (some 7) rfl rfl Tryd.func17 (by kernel_rfl) rfl #[.string (⟨#[46, 97, 115, 99, 105, 105, 32, 34, 97, 92, 110, 34]⟩ : ByteArray), .slice Ao20 y260.length co20] rfl (by (try simp only [List.map_toArray, List.map_cons, List.map_nil]); first | done | rfl | (simp only [List.length_drop, List.length_take]; rfl)) ?_; (with_reducible refine (quoinlaw15_is.calls k (⟨#[46, 97, 115, 99, 105, 105, 32, 34, 97, 92, 110, 34]⟩ : ByteArray) _ _ y260 false _ ?side1 ?side2 ?side3 A3.out).mono ?_); (case side1 => repeat (first | exact (Kd.R_reads' HO262.out).2.2 | (with_reducible refine Kd.C_alloc ?_ _) | (with_reducible refine Kd.C_drewN ?_ _) | (with_reducible refine Kd.C_drew ?_))); (case side2 => exact (Kd.R_reads' HO262.out).2.1); (case side3 => exact HE_.out.below (by repeat (first | (with_reducible first | exact HB.out | apply below_alloc | apply pw_below_drewN | apply below_drew1) | exact HB.out))); rintro e w21 ⟨rfl, hb⟩; refine ⟨_, rfl, ?_⟩; have n0_ := Aside0.mk (Kd.R_below (by (with_reducible repeat (first | apply Kd.R_alloc | apply Kd.R_drewN | apply Kd.R_drew)); exact HO262.out) hb); have n1_ := Aside0.mk (below_step (by repeat (first | (with_reducible first | exact HB.out | apply below_alloc | apply pw_below_drewN | apply below_drew1) | exact HB.out)) hb); clear HO262; clear HB; have HO262 := n0_; have HB := n1_; clear n0_ n1_; (try clear hb); (try clear hb2); (try clear hk); (try clear hi)))
   go_meet
   case rel => exact ⟨_, (false), (by first | rfl | (simp; done) | (simp [*]; done) | (simp [show (⟨#[32, 9]⟩ : ByteArray).size = 2 from rfl, show (⟨#[32, 9, 35, 32, 97, 32, 114, 101, 109, 97, 114, 107, 58, 32, 34, 32, 44]⟩ : ByteArray).size = 17 from rfl]; done)), H', ⟨by first | omega | exact Nat.le_refl _⟩, ⟨by repeat (first | (with_reducible first | exact HB.out | apply below_alloc | apply pw_below_drewN | apply below_drew1) | exact HB.out)⟩⟩
 case rest =>
  clear HC1
  try clear c1
  try clear p2
  try clear c3
  try clear c4
  try clear c6
  try clear c17
  try clear c18
  obtain ⟨kq, x1_0, rfl, HA, HJ0, HB⟩ := hcut
  cases kq with
  | zero => exact absurd HA.out (by simp [quoinlaw15_LexNames.j0])
  | succ kj0 =>
   have H := HA.out
   clear HA
   simp only [quoinlaw15_LexNames.j0] at H
   by_cases c22 : 257 ≤ 281474976710656
   ·
    rw [if_pos c22] at H
    have c22b0 := eq_true c22
    have c22b1 : decide (257 ≤ 281474976710656) = true := decide_eq_true c22
    clear c22
    obtain ⟨y271, hy271⟩ : ∃ y_ : List Int, y_ = (List.replicate 257 0) := ⟨_, rfl⟩
    replace H : ((lex_Tokens.f (strOfNums y271)).bind fun bt274 => ((quoinlaw15_alive.f kj0).bind fun t278 => (if t278 = true then (if x1_0 = true then ((quoinlaw15_bad.f (⟨#[49, 50, 97]⟩ : ByteArray)).bind fun t279 => (if t279 = true then ((quoinlaw15_bad.f (⟨#[49, 102, 120]⟩ : ByteArray)).bind fun t280 => (if t280 = true then ((quoinlaw15_bad.f (⟨#[48, 120]⟩ : ByteArray)).bind fun t281 => (if t281 = true then ((quoinlaw15_bad.f (⟨#[34, 97]⟩ : ByteArray)).bind fun t282 => (if t282 = true then ((quoinlaw15_bad.f (⟨#[97, 64, 98]⟩ : ByteArray)).bind fun t283 => (if t283 = true then (if bt274.2 = 3 then ((quoinlaw15_word.f (⟨#[49]⟩ : ByteArray)).bind fun bt284 => ((lex_Check.f kj0 bt284.1 bt284.2.1 bt284.2.2).bind fun t287 => (if t287 = 8 then ((quoinlaw15_number.f 7).bind fun bt288 => ((lex_Check.f kj0 bt288.1 bt288.2.1 bt288.2.2).bind fun t291 => (some (t291 == 0)))) else (none)))) else (none)) else (none))) else (none))) else (none))) else (none))) else (none))) else (none)) else (none)))) = some r := by first | (rw [hy271]; with_reducible exact H) | (have H2_ := (Option.bind_some _ _).symm.trans H; rw [hy271]; with_reducible exact H2_) | (have H2_ := (Option.bind_some _ _).symm.trans H; with_reducible exact H2_) | with_reducible exact H | (rw [hy271]; exact H) | exact H
    have Ny271 := Aside0.mk hy271
    clear hy271
    replace H := Option.bind_eq_some_iff.mp H
    obtain ⟨⟨t274, t275⟩, A230, H⟩ := H
    replace H : ((quoinlaw15_alive.f kj0).bind fun t278 => (if t278 = true then (if x1_0 = true then ((quoinlaw15_bad.f (⟨#[49, 50, 97]⟩ : ByteArray)).bind fun t279 => (if t279 = true then ((quoinlaw15_bad.f (⟨#[49, 102, 120]⟩ : ByteArray)).bind fun t280 => (if t280 = true then ((quoinlaw15_bad.f (⟨#[48, 120]⟩ : ByteArray)).bind fun t281 => (if t281 = true then ((quoinlaw15_bad.f (⟨#[34, 97]⟩ : ByteArray)).bind fun t282 => (if t282 = true then ((quoinlaw15_bad.f (⟨#[97, 64, 98]⟩ : ByteArray)).bind fun t283 => (if t283 = true then (if t275 = 3 then ((quoinlaw15_word.f (⟨#[49]⟩ : ByteArray)).bind fun bt284 => ((lex_Check.f kj0 bt284.1 bt284.2.1 bt284.2.2).bind fun t287 => (if t287 = 8 then ((quoinlaw15_number.f 7).bind fun bt288 => ((lex_Check.f kj0 bt288.1 bt288.2.1 bt288.2.2).bind fun t291 => (some (t291 == 0)))) else (none)))) else (none)) else (none))) else (none))) else (none))) else (none))) else (none))) else (none)) else (none))) = some r := H
    have A23 := Aside0.mk A230
    clear A230
    replace H := Option.bind_eq_some_iff.mp H
    obtain ⟨t278, A240, H⟩ := H
    replace H : (if t278 = true then (if x1_0 = true then ((quoinlaw15_bad.f (⟨#[49, 50, 97]⟩ : ByteArray)).bind fun t279 => (if t279 = true then ((quoinlaw15_bad.f (⟨#[49, 102, 120]⟩ : ByteArray)).bind fun t280 => (if t280 = true then ((quoinlaw15_bad.f (⟨#[48, 120]⟩ : ByteArray)).bind fun t281 => (if t281 = true then ((quoinlaw15_bad.f (⟨#[34, 97]⟩ : ByteArray)).bind fun t282 => (if t282 = true then ((quoinlaw15_bad.f (⟨#[97, 64, 98]⟩ : ByteArray)).bind fun t283 => (if t283 = true then (if t275 = 3 then ((quoinlaw15_word.f (⟨#[49]⟩ : ByteArray)).bind fun bt284 => ((lex_Check.f kj0 bt284.1 bt284.2.1 bt284.2.2).bind fun t287 => (if t287 = 8 then ((quoinlaw15_number.f 7).bind fun bt288 => ((lex_Check.f kj0 bt288.1 bt288.2.1 bt288.2.2).bind fun t291 => (some (t291 == 0)))) else (none)))) else (none)) else (none))) else (none))) else (none))) else (none))) else (none))) else (none)) else (none)) = some r := H
    have A24 := Aside0.mk A240
    clear A240
    by_cases c25 : t278 = true
    ·
     subst c25
     have H1 : (if x1_0 = true then ((quoinlaw15_bad.f (⟨#[49, 50, 97]⟩ : ByteArray)).bind fun t279 => (if t279 = true then ((quoinlaw15_bad.f (⟨#[49, 102, 120]⟩ : ByteArray)).bind fun t280 => (if t280 = true then ((quoinlaw15_bad.f (⟨#[48, 120]⟩ : ByteArray)).bind fun t281 => (if t281 = true then ((quoinlaw15_bad.f (⟨#[34, 97]⟩ : ByteArray)).bind fun t282 => (if t282 = true then ((quoinlaw15_bad.f (⟨#[97, 64, 98]⟩ : ByteArray)).bind fun t283 => (if t283 = true then (if t275 = 3 then ((quoinlaw15_word.f (⟨#[49]⟩ : ByteArray)).bind fun bt284 => ((lex_Check.f kj0 bt284.1 bt284.2.1 bt284.2.2).bind fun t287 => (if t287 = 8 then ((quoinlaw15_number.f 7).bind fun bt288 => ((lex_Check.f kj0 bt288.1 bt288.2.1 bt288.2.2).bind fun t291 => (some (t291 == 0)))) else (none)))) else (none)) else (none))) else (none))) else (none))) else (none))) else (none))) else (none)) = some r := by rw [if_pos rfl] at H; exact H
     clear H
     have H := H1
     clear H1
     by_cases c26 : x1_0 = true
     ·
      subst c26
      have H1 : ((quoinlaw15_bad.f (⟨#[49, 50, 97]⟩ : ByteArray)).bind fun t279 => (if t279 = true then ((quoinlaw15_bad.f (⟨#[49, 102, 120]⟩ : ByteArray)).bind fun t280 => (if t280 = true then ((quoinlaw15_bad.f (⟨#[48, 120]⟩ : ByteArray)).bind fun t281 => (if t281 = true then ((quoinlaw15_bad.f (⟨#[34, 97]⟩ : ByteArray)).bind fun t282 => (if t282 = true then ((quoinlaw15_bad.f (⟨#[97, 64, 98]⟩ : ByteArray)).bind fun t283 => (if t283 = true then (if t275 = 3 then ((quoinlaw15_word.f (⟨#[49]⟩ : ByteArray)).bind fun bt284 => ((lex_Check.f kj0 bt284.1 bt284.2.1 bt284.2.2).bind fun t287 => (if t287 = 8 then ((quoinlaw15_number.f 7).bind fun bt288 => ((lex_Check.f kj0 bt288.1 bt288.2.1 bt288.2.2).bind fun t291 => (some (t291 == 0)))) else (none)))) else (none)) else (none))) else (none))) else (none))) else (none))) else (none))) = some r := by rw [if_pos rfl] at H; exact H
      clear H
      have H := H1
      clear H1
      replace H := Option.bind_eq_some_iff.mp H
      obtain ⟨t279, A270, H⟩ := H
      replace H : (if t279 = true then ((quoinlaw15_bad.f (⟨#[49, 102, 120]⟩ : ByteArray)).bind fun t280 => (if t280 = true then ((quoinlaw15_bad.f (⟨#[48, 120]⟩ : ByteArray)).bind fun t281 => (if t281 = true then ((quoinlaw15_bad.f (⟨#[34, 97]⟩ : ByteArray)).bind fun t282 => (if t282 = true then ((quoinlaw15_bad.f (⟨#[97, 64, 98]⟩ : ByteArray)).bind fun t283 => (if t283 = true then (if t275 = 3 then ((quoinlaw15_word.f (⟨#[49]⟩ : ByteArray)).bind fun bt284 => ((lex_Check.f kj0 bt284.1 bt284.2.1 bt284.2.2).bind fun t287 => (if t287 = 8 then ((quoinlaw15_number.f 7).bind fun bt288 => ((lex_Check.f kj0 bt288.1 bt288.2.1 bt288.2.2).bind fun t291 => (some (t291 == 0)))) else (none)))) else (none)) else (none))) else (none))) else (none))) else (none))) else (none)) = some r := H
      have A27 := Aside0.mk A270
      clear A270
      by_cases c28 : t279 = true
      ·
       subst c28
       have H1 : ((quoinlaw15_bad.f (⟨#[49, 102, 120]⟩ : ByteArray)).bind fun t280 => (if t280 = true then ((quoinlaw15_bad.f (⟨#[48, 120]⟩ : ByteArray)).bind fun t281 => (if t281 = true then ((quoinlaw15_bad.f (⟨#[34, 97]⟩ : ByteArray)).bind fun t282 => (if t282 = true then ((quoinlaw15_bad.f (⟨#[97, 64, 98]⟩ : ByteArray)).bind fun t283 => (if t283 = true then (if t275 = 3 then ((quoinlaw15_word.f (⟨#[49]⟩ : ByteArray)).bind fun bt284 => ((lex_Check.f kj0 bt284.1 bt284.2.1 bt284.2.2).bind fun t287 => (if t287 = 8 then ((quoinlaw15_number.f 7).bind fun bt288 => ((lex_Check.f kj0 bt288.1 bt288.2.1 bt288.2.2).bind fun t291 => (some (t291 == 0)))) else (none)))) else (none)) else (none))) else (none))) else (none))) else (none))) = some r := by rw [if_pos rfl] at H; exact H
       clear H
       have H := H1
       clear H1
       replace H := Option.bind_eq_some_iff.mp H
       obtain ⟨t280, A290, H⟩ := H
       replace H : (if t280 = true then ((quoinlaw15_bad.f (⟨#[48, 120]⟩ : ByteArray)).bind fun t281 => (if t281 = true then ((quoinlaw15_bad.f (⟨#[34, 97]⟩ : ByteArray)).bind fun t282 => (if t282 = true then ((quoinlaw15_bad.f (⟨#[97, 64, 98]⟩ : ByteArray)).bind fun t283 => (if t283 = true then (if t275 = 3 then ((quoinlaw15_word.f (⟨#[49]⟩ : ByteArray)).bind fun bt284 => ((lex_Check.f kj0 bt284.1 bt284.2.1 bt284.2.2).bind fun t287 => (if t287 = 8 then ((quoinlaw15_number.f 7).bind fun bt288 => ((lex_Check.f kj0 bt288.1 bt288.2.1 bt288.2.2).bind fun t291 => (some (t291 == 0)))) else (none)))) else (none)) else (none))) else (none))) else (none))) else (none)) = some r := H
       have A29 := Aside0.mk A290
       clear A290
       by_cases c30 : t280 = true
       ·
        subst c30
        have H1 : ((quoinlaw15_bad.f (⟨#[48, 120]⟩ : ByteArray)).bind fun t281 => (if t281 = true then ((quoinlaw15_bad.f (⟨#[34, 97]⟩ : ByteArray)).bind fun t282 => (if t282 = true then ((quoinlaw15_bad.f (⟨#[97, 64, 98]⟩ : ByteArray)).bind fun t283 => (if t283 = true then (if t275 = 3 then ((quoinlaw15_word.f (⟨#[49]⟩ : ByteArray)).bind fun bt284 => ((lex_Check.f kj0 bt284.1 bt284.2.1 bt284.2.2).bind fun t287 => (if t287 = 8 then ((quoinlaw15_number.f 7).bind fun bt288 => ((lex_Check.f kj0 bt288.1 bt288.2.1 bt288.2.2).bind fun t291 => (some (t291 == 0)))) else (none)))) else (none)) else (none))) else (none))) else (none))) = some r := by rw [if_pos rfl] at H; exact H
        clear H
        have H := H1
        clear H1
        replace H := Option.bind_eq_some_iff.mp H
        obtain ⟨t281, A310, H⟩ := H
        replace H : (if t281 = true then ((quoinlaw15_bad.f (⟨#[34, 97]⟩ : ByteArray)).bind fun t282 => (if t282 = true then ((quoinlaw15_bad.f (⟨#[97, 64, 98]⟩ : ByteArray)).bind fun t283 => (if t283 = true then (if t275 = 3 then ((quoinlaw15_word.f (⟨#[49]⟩ : ByteArray)).bind fun bt284 => ((lex_Check.f kj0 bt284.1 bt284.2.1 bt284.2.2).bind fun t287 => (if t287 = 8 then ((quoinlaw15_number.f 7).bind fun bt288 => ((lex_Check.f kj0 bt288.1 bt288.2.1 bt288.2.2).bind fun t291 => (some (t291 == 0)))) else (none)))) else (none)) else (none))) else (none))) else (none)) = some r := H
        have A31 := Aside0.mk A310
        clear A310
        by_cases c32 : t281 = true
        ·
         subst c32
         have H1 : ((quoinlaw15_bad.f (⟨#[34, 97]⟩ : ByteArray)).bind fun t282 => (if t282 = true then ((quoinlaw15_bad.f (⟨#[97, 64, 98]⟩ : ByteArray)).bind fun t283 => (if t283 = true then (if t275 = 3 then ((quoinlaw15_word.f (⟨#[49]⟩ : ByteArray)).bind fun bt284 => ((lex_Check.f kj0 bt284.1 bt284.2.1 bt284.2.2).bind fun t287 => (if t287 = 8 then ((quoinlaw15_number.f 7).bind fun bt288 => ((lex_Check.f kj0 bt288.1 bt288.2.1 bt288.2.2).bind fun t291 => (some (t291 == 0)))) else (none)))) else (none)) else (none))) else (none))) = some r := by rw [if_pos rfl] at H; exact H
         clear H
         have H := H1
         clear H1
         replace H := Option.bind_eq_some_iff.mp H
         obtain ⟨t282, A330, H⟩ := H
         replace H : (if t282 = true then ((quoinlaw15_bad.f (⟨#[97, 64, 98]⟩ : ByteArray)).bind fun t283 => (if t283 = true then (if t275 = 3 then ((quoinlaw15_word.f (⟨#[49]⟩ : ByteArray)).bind fun bt284 => ((lex_Check.f kj0 bt284.1 bt284.2.1 bt284.2.2).bind fun t287 => (if t287 = 8 then ((quoinlaw15_number.f 7).bind fun bt288 => ((lex_Check.f kj0 bt288.1 bt288.2.1 bt288.2.2).bind fun t291 => (some (t291 == 0)))) else (none)))) else (none)) else (none))) else (none)) = some r := H
         have A33 := Aside0.mk A330
         clear A330
         by_cases c34 : t282 = true
         ·
          subst c34
          have H1 : ((quoinlaw15_bad.f (⟨#[97, 64, 98]⟩ : ByteArray)).bind fun t283 => (if t283 = true then (if t275 = 3 then ((quoinlaw15_word.f (⟨#[49]⟩ : ByteArray)).bind fun bt284 => ((lex_Check.f kj0 bt284.1 bt284.2.1 bt284.2.2).bind fun t287 => (if t287 = 8 then ((quoinlaw15_number.f 7).bind fun bt288 => ((lex_Check.f kj0 bt288.1 bt288.2.1 bt288.2.2).bind fun t291 => (some (t291 == 0)))) else (none)))) else (none)) else (none))) = some r := by rw [if_pos rfl] at H; exact H
          clear H
          have H := H1
          clear H1
          replace H := Option.bind_eq_some_iff.mp H
          obtain ⟨t283, A350, H⟩ := H
          replace H : (if t283 = true then (if t275 = 3 then ((quoinlaw15_word.f (⟨#[49]⟩ : ByteArray)).bind fun bt284 => ((lex_Check.f kj0 bt284.1 bt284.2.1 bt284.2.2).bind fun t287 => (if t287 = 8 then ((quoinlaw15_number.f 7).bind fun bt288 => ((lex_Check.f kj0 bt288.1 bt288.2.1 bt288.2.2).bind fun t291 => (some (t291 == 0)))) else (none)))) else (none)) else (none)) = some r := H
          have A35 := Aside0.mk A350
          clear A350
          by_cases c36 : t283 = true
          ·
           subst c36
           have H1 : (if t275 = 3 then ((quoinlaw15_word.f (⟨#[49]⟩ : ByteArray)).bind fun bt284 => ((lex_Check.f kj0 bt284.1 bt284.2.1 bt284.2.2).bind fun t287 => (if t287 = 8 then ((quoinlaw15_number.f 7).bind fun bt288 => ((lex_Check.f kj0 bt288.1 bt288.2.1 bt288.2.2).bind fun t291 => (some (t291 == 0)))) else (none)))) else (none)) = some r := by rw [if_pos rfl] at H; exact H
           clear H
           have H := H1
           clear H1
           by_cases c37 : t275 = 3
           ·
            rw [if_pos c37] at H
            have c37b0 : (t275 == 3) = true := beq_iff_eq.mpr c37
            have c37b1 : (t275 != 3) = false := bne_eq_false_iff_eq.mpr c37
            clear c37
            replace H := Option.bind_eq_some_iff.mp H
            obtain ⟨⟨t284, t285, t286⟩, A380, H⟩ := H
            replace H : ((lex_Check.f kj0 t284 t285 t286).bind fun t287 => (if t287 = 8 then ((quoinlaw15_number.f 7).bind fun bt288 => ((lex_Check.f kj0 bt288.1 bt288.2.1 bt288.2.2).bind fun t291 => (some (t291 == 0)))) else (none))) = some r := H
            have A38 := Aside0.mk A380
            clear A380
            replace H := Option.bind_eq_some_iff.mp H
            obtain ⟨t287, A390, H⟩ := H
            replace H : (if t287 = 8 then ((quoinlaw15_number.f 7).bind fun bt288 => ((lex_Check.f kj0 bt288.1 bt288.2.1 bt288.2.2).bind fun t291 => (some (t291 == 0)))) else (none)) = some r := H
            have A39 := Aside0.mk A390
            clear A390
            by_cases c40 : t287 = 8
            ·
             rw [if_pos c40] at H
             have c40b0 : (t287 == 8) = true := beq_iff_eq.mpr c40
             have c40b1 : (t287 != 8) = false := bne_eq_false_iff_eq.mpr c40
             clear c40
             replace H := Option.bind_eq_some_iff.mp H
             obtain ⟨⟨t288, t289, t290⟩, A410, H⟩ := H
             replace H : ((lex_Check.f kj0 t288 t289 t290).bind fun t291 => (some (t291 == 0))) = some r := H
             have A41 := Aside0.mk A410
             clear A410
             replace H := Option.bind_eq_some_iff.mp H
             obtain ⟨t291, A420, H⟩ := H
             replace H : (some (t291 == 0)) = some r := H
             have A42 := Aside0.mk A420
             clear A420
             obtain rfl := Option.some.inj H
             go_wp2_with (first | ((with_reducible refine gate_dst (N := 14) rfl ?_); (try (refine gate_guard (by rfl) ?_; dsimp only)); refine Kd.R_make (Kd.int .u8) _ 5 rfl (N := 14) rfl 43 _ _ rfl 257 rfl rfl Tryd.underlying43 (.int .u8 0) 1 info5 rfl (by decide) (by omega) 0 (ok := fun _ => True) (okp := fun _ => True) rfl (fun _ hk => hk) trivial (by omega) (by omega) (Below.refl _ _) (Nat.le_refl _) ?_; intro v272 w43 ho44 hb hg_ hnew_; clear hg_ hnew_; (first | rw [← Ny271.out] at ho44 | (simp only [Int.reduceToNat] at ho44; rw [← Ny271.out] at ho44)); have n0_ := Aside0.mk (Kd.R_lower ho44 (below_size (by repeat (first | (with_reducible first | exact HB.out | apply below_alloc | apply pw_below_drewN | apply below_drew1) | exact HB.out)))); have n1_ := Aside0.mk (below_step (by repeat (first | (with_reducible first | exact HB.out | apply below_alloc | apply pw_below_drewN | apply below_drew1) | exact HB.out)) hb); clear HB; have HO273 := n0_; have HB := n1_; clear n0_ n1_; clear hb ho44; have hcv45 := own_string (P := Tryd.prog) Tryd.underlying43 Tryd.underlying5 Tryd.underlying9 (Kd.own_of_R HO273.out); have hcv46 := fun n_ : Nat => own_string (P := Tryd.prog) Tryd.underlying43 Tryd.underlying5 Tryd.underlying9 (Kd.own_of_R (Kd.R_drewN HO273.out n_))) | ((with_reducible refine gate_callee (f := 16) rfl ?_); refine goesL_ (some 16) rfl rfl Tryd.func16 (by kernel_rfl) rfl #[.string (strOfNums y271)] rfl (by (try simp only [List.map_toArray, List.map_cons, List.map_nil]); first | done | rfl | (simp only [List.length_drop, List.length_take]; rfl)) ?_; (with_reducible refine (lex_Tokens.calls (strOfNums y271) t274 t275 _ ?side1 A23.out).mono ?_); (case side1 => exact HE_.out.below (by repeat (first | (with_reducible first | exact HB.out | apply below_alloc | apply pw_below_drewN | apply below_drew1) | exact HB.out))); rintro e w47 ⟨v276, rfl, ho0, hb⟩; refine ⟨_, rfl, ?_⟩; have n0_ := Aside0.mk (Kd.R_below (by (with_reducible repeat (first | apply Kd.R_alloc | apply Kd.R_drewN | apply Kd.R_drew)); exact HO273.out) hb); have n1_ := Aside0.mk (Kd.R_lower ho0 (below_size (by repeat (first | (with_reducible first | exact HB.out | apply below_alloc | apply pw_below_drewN | apply below_drew1) | exact HB.out)))); have n2_ := Aside0.mk (below_step (by repeat (first | (with_reducible first | exact HB.out | apply below_alloc | apply pw_below_drewN | apply below_drew1) | exact HB.out)) hb); clear HO273; clear HB; have HO273 := n0_; have HO277 := n1_; have HB := n2_; clear n0_ n1_ n2_; (try clear hb); (try clear hb2); (try clear hk); (try clear hi); (try clear ho0)) | (go_at_call 15; (with_reducible refine (quoinlaw15_alive.calls kj0  true _ ?side1 A24.out).mono ?_); (case side1 => exact HE_.out.below (by repeat (first | (with_reducible first | exact HB.out | apply below_alloc | apply pw_below_drewN | apply below_drew1) | exact HB.out))); rintro e w48 ⟨rfl, hb⟩; have n0_ := Aside0.mk (Kd.R_below (by (with_reducible repeat (first | apply Kd.R_alloc | apply Kd.R_drewN | apply Kd.R_drew)); exact HO273.out) hb); have n1_ := Aside0.mk (Kd.R_below (by (with_reducible repeat (first | apply Kd.R_alloc | apply Kd.R_drewN | apply Kd.R_drew)); exact HO277.out) hb); have n2_ := Aside0.mk (below_step (by repeat (first | (with_reducible first | exact HB.out | apply below_alloc | apply pw_below_drewN | apply below_drew1) | exact HB.out)) hb); clear HO273; clear HO277; clear HB; have HO273 := n0_; have HO277 := n1_; have HB := n2_; clear n0_ n1_ n2_; (try clear hb); (try clear hb2); (try clear hk); (try clear hi)) | (go_at_call 20; (with_reducible refine (quoinlaw15_bad.calls (⟨#[49, 50, 97]⟩ : ByteArray) true _ ?side1 A27.out).mono ?_); (case side1 => exact HE_.out.below (by repeat (first | (with_reducible first | exact HB.out | apply below_alloc | apply pw_below_drewN | apply below_drew1) | exact HB.out))); rintro e w49 ⟨rfl, hb⟩; have n0_ := Aside0.mk (Kd.R_below (by (with_reducible repeat (first | apply Kd.R_alloc | apply Kd.R_drewN | apply Kd.R_drew)); exact HO273.out) hb); have n1_ := Aside0.mk (Kd.R_below (by (with_reducible repeat (first | apply Kd.R_alloc | apply Kd.R_drewN | apply Kd.R_drew)); exact HO277.out) hb); have n2_ := Aside0.mk (below_step (by repeat (first | (with_reducible first | exact HB.out | apply below_alloc | apply pw_below_drewN | apply below_drew1) | exact HB.out)) hb); clear HO273; clear HO277; clear HB; have HO273 := n0_; have HO277 := n1_; have HB := n2_; clear n0_ n1_ n2_; (try clear hb); (try clear hb2); (try clear hk); (try clear hi)) | (go_at_call 20; (with_reducible refine (quoinlaw15_bad.calls (⟨#[49, 102, 120]⟩ : ByteArray) true _ ?side1 A29.out).mono ?_); (case side1 => exact HE_.out.below (by repeat (first | (with_reducible first | exact HB.out | apply below_alloc | apply pw_below_drewN | apply below_drew1) | exact HB.out))); rintro e w50 ⟨rfl, hb⟩; have n0_ := Aside0.mk (Kd.R_below (by (with_reducible repeat (first | apply Kd.R_alloc | apply Kd.R_drewN | apply Kd.R_drew)); exact HO273.out) hb); have n1_ := Aside0.mk (Kd.R_below (by (with_reducible repeat (first | apply Kd.R_alloc | apply Kd.R_drewN | apply Kd.R_drew)); exact HO277.out) hb); have n2_ := Aside0.mk (below_step (by repeat (first | (with_reducible first | exact HB.out | apply below_alloc | apply pw_below_drewN | apply below_drew1) | exact HB.out)) hb); clear HO273; clear HO277; clear HB; have HO273 := n0_; have HO277 := n1_; have HB := n2_; clear n0_ n1_ n2_; (try clear hb); (try clear hb2); (try clear hk); (try clear hi)) | (go_at_call 20; (with_reducible refine (quoinlaw15_bad.calls (⟨#[48, 120]⟩ : ByteArray) true _ ?side1 A31.out).mono ?_); (case side1 => exact HE_.out.below (by repeat (first | (with_reducible first | exact HB.out | apply below_alloc | apply pw_below_drewN | apply below_drew1) | exact HB.out))); rintro e w51 ⟨rfl, hb⟩; have n0_ := Aside0.mk (Kd.R_below (by (with_reducible repeat (first | apply Kd.R_alloc | apply Kd.R_drewN | apply Kd.R_drew)); exact HO273.out) hb); have n1_ := Aside0.mk (Kd.R_below (by (with_reducible repeat (first | apply Kd.R_alloc | apply Kd.R_drewN | apply Kd.R_drew)); exact HO277.out) hb); have n2_ := Aside0.mk (below_step (by repeat (first | (with_reducible first | exact HB.out | apply below_alloc | apply pw_below_drewN | apply below_drew1) | exact HB.out)) hb); clear HO273; clear HO277; clear HB; have HO273 := n0_; have HO277 := n1_; have HB := n2_; clear n0_ n1_ n2_; (try clear hb); (try clear hb2); (try clear hk); (try clear hi)) | (go_at_call 20; (with_reducible refine (quoinlaw15_bad.calls (⟨#[34, 97]⟩ : ByteArray) true _ ?side1 A33.out).mono ?_); (case side1 => exact HE_.out.below (by repeat (first | (with_reducible first | exact HB.out | apply below_alloc | apply pw_below_drewN | apply below_drew1) | exact HB.out))); rintro e w52 ⟨rfl, hb⟩; have n0_ := Aside0.mk (Kd.R_below (by (with_reducible repeat (first | apply Kd.R_alloc | apply Kd.R_drewN | apply Kd.R_drew)); exact HO273.out) hb); have n1_ := Aside0.mk (Kd.R_below (by (with_reducible repeat (first | apply Kd.R_alloc | apply Kd.R_drewN | apply Kd.R_drew)); exact HO277.out) hb); have n2_ := Aside0.mk (below_step (by repeat (first | (with_reducible first | exact HB.out | apply below_alloc | apply pw_below_drewN | apply below_drew1) | exact HB.out)) hb); clear HO273; clear HO277; clear HB; have HO273 := n0_; have HO277 := n1_; have HB := n2_; clear n0_ n1_ n2_; (try clear hb); (try clear hb2); (try clear hk); (try clear hi)) | (go_at_call 20; (with_reducible refine (quoinlaw15_bad.calls (⟨#[97, 64, 98]⟩ : ByteArray) true _ ?side1 A35.out).mono ?_); (case side1 => exact HE_.out.below (by repeat (first | (with_reducible first | exact HB.out | apply below_alloc | apply pw_below_drewN | apply below_drew1) | exact HB.out))); rintro e w53 ⟨rfl, hb⟩; have n0_ := Aside0.mk (Kd.R_below (by (with_reducible repeat (first | apply Kd.R_alloc | apply Kd.R_drewN | apply Kd.R_drew)); exact HO273.out) hb); have n1_ := Aside0.mk (Kd.R_below (by (with_reducible repeat (first | apply Kd.R_alloc | apply Kd.R_drewN | apply Kd.R_drew)); exact HO277.out) hb); have n2_ := Aside0.mk (below_step (by repeat (first | (with_reducible first | exact HB.out | apply below_alloc | apply pw_below_drewN | apply below_drew1) | exact HB.out)) hb); clear HO273; clear HO277; clear HB; have HO273 := n0_; have HO277 := n1_; have HB := n2_; clear n0_ n1_ n2_; (try clear hb); (try clear hb2); (try clear hk); (try clear hi)) | (go_at_call 18; (with_reducible refine (quoinlaw15_word.calls (⟨#[49]⟩ : ByteArray) t284 t285 t286 _ A38.out).mono ?_); rintro e w54 ⟨rfl, hb⟩; have n0_ := Aside0.mk (Kd.R_below (by (with_reducible repeat (first | apply Kd.R_alloc | apply Kd.R_drewN | apply Kd.R_drew)); exact HO273.out) hb); have n1_ := Aside0.mk (Kd.R_below (by (with_reducible repeat (first | apply Kd.R_alloc | apply Kd.R_drewN | apply Kd.R_drew)); exact HO277.out) hb); have n2_ := Aside0.mk (below_step (by repeat (first | (with_reducible first | exact HB.out | apply below_alloc | apply pw_below_drewN | apply below_drew1) | exact HB.out)) hb); clear HO273; clear HO277; clear HB; have HO273 := n0_; have HO277 := n1_; have HB := n2_; clear n0_ n1_ n2_; (try clear hb); (try clear hb2); (try clear hk); (try clear hi)) | (go_at_call 12; (with_reducible refine (lex_Check.calls kj0 t284 t285 t286 t287 _ ?side1 ?side2 A39.out).mono ?_); (case side1 => exact Lib.tabBelow_of_tabIs HT.out _ (by repeat (first | (with_reducible first | exact HB.out | apply below_alloc | apply pw_below_drewN | apply below_drew1) | exact HB.out))); (case side2 => exact HD_.out.below (by repeat (first | (with_reducible first | exact HB.out | apply below_alloc | apply pw_below_drewN | apply below_drew1) | exact HB.out))); rintro e w55 ⟨rfl, hb⟩; have n0_ := Aside0.mk (Kd.R_below (by (with_reducible repeat (first | apply Kd.R_alloc | apply Kd.R_drewN | apply Kd.R_drew)); exact HO273.out) hb); have n1_ := Aside0.mk (Kd.R_below (by (with_reducible repeat (first | apply Kd.R_alloc | apply Kd.R_drewN | apply Kd.R_drew)); exact HO277.out) hb); have n2_ := Aside0.mk (below_step (by repeat (first | (with_reducible first | exact HB.out | apply below_alloc | apply pw_below_drewN | apply below_drew1) | exact HB.out)) hb); clear HO273; clear HO277; clear HB; have HO273 := n0_; have HO277 := n1_; have HB := n2_; clear n0_ n1_ n2_; (try clear hb); (try clear hb2); (try clear hk); (try clear hi)) | (go_at_call 19; (with_reducible refine (quoinlaw15_number.calls 7 t288 t289 t290 _ A41.out).mono ?_); rintro e w56 ⟨rfl, hb⟩; have n0_ := Aside0.mk (Kd.R_below (by (with_reducible repeat (first | apply Kd.R_alloc | apply Kd.R_drewN | apply Kd.R_drew)); exact HO273.out) hb); have n1_ := Aside0.mk (Kd.R_below (by (with_reducible repeat (first | apply Kd.R_alloc | apply Kd.R_drewN | apply Kd.R_drew)); exact HO277.out) hb); have n2_ := Aside0.mk (below_step (by repeat (first | (with_reducible first | exact HB.out | apply below_alloc | apply pw_below_drewN | apply below_drew1) | exact HB.out)) hb); clear HO273; clear HO277; clear HB; have HO273 := n0_; have HO277 := n1_; have HB := n2_; clear n0_ n1_ n2_; (try clear hb); (try clear hb2); (try clear hk); (try clear hi)) | (go_at_call 12; (with_reducible refine (lex_Check.calls kj0 t288 t289 t290 t291 _ ?side1 ?side2 A42.out).mono ?_); (case side1 => exact Lib.tabBelow_of_tabIs HT.out _ (by repeat (first | (with_reducible first | exact HB.out | apply below_alloc | apply pw_below_drewN | apply below_drew1) | exact HB.out))); (case side2 => exact HD_.out.below (by repeat (first | (with_reducible first | exact HB.out | apply below_alloc | apply pw_below_drewN | apply below_drew1) | exact HB.out))); rintro e w57 ⟨rfl, hb⟩; have n0_ := Aside0.mk (Kd.R_below (by (with_reducible repeat (first | apply Kd.R_alloc | apply Kd.R_drewN | apply Kd.R_drew)); exact HO273.out) hb); have n1_ := Aside0.mk (Kd.R_below (by (with_reducible repeat (first | apply Kd.R_alloc | apply Kd.R_drewN | apply Kd.R_drew)); exact HO277.out) hb); have n2_ := Aside0.mk (below_step (by repeat (first | (with_reducible first | exact HB.out | apply below_alloc | apply pw_below_drewN | apply below_drew1) | exact HB.out)) hb); clear HO273; clear HO277; clear HB; have HO273 := n0_; have HO277 := n1_; have HB := n2_; clear n0_ n1_ n2_; (try clear hb); (try clear hb2); (try clear hk); (try clear hi)))
             go_ret
             exact ⟨by first | rfl | (simp [errW_none, errW_some] <;> rfl) | (simp [*, errW_none, errW_some] <;> rfl), by repeat (first | (with_reducible first | exact HB.out | apply below_alloc | apply pw_below_drewN | apply below_drew1) | exact HB.out)⟩
            ·
             rw [if_neg c40] at H
             exact absurd H (by simp)
           ·
            rw [if_neg c37] at H
            exact absurd H (by simp)
          ·
           replace c36 := Bool.eq_false_iff.mpr c36
           subst c36
           have H1 : (none) = some r := by rw [if_neg (show ¬ (false = true) by decide)] at H; exact H
           clear H
           have H := H1
           clear H1
           exact absurd H (by simp)
         ·
          replace c34 := Bool.eq_false_iff.mpr c34
          subst c34
          have H1 : (none) = some r := by rw [if_neg (show ¬ (false = true) by decide)] at H; exact H
          clear H
          have H := H1
          clear H1
          exact absurd H (by simp)
        ·
         replace c32 := Bool.eq_false_iff.mpr c32
         subst c32
         have H1 : (none) = some r := by rw [if_neg (show ¬ (false = true) by decide)] at H; exact H
         clear H
         have H := H1
         clear H1
         exact absurd H (by simp)
       ·
        replace c30 := Bool.eq_false_iff.mpr c30
        subst c30
        have H1 : (none) = some r := by rw [if_neg (show ¬ (false = true) by decide)] at H; exact H
        clear H
        have H := H1
        clear H1
        exact absurd H (by simp)
      ·
       replace c28 := Bool.eq_false_iff.mpr c28
       subst c28
       have H1 : (none) = some r := by rw [if_neg (show ¬ (false = true) by decide)] at H; exact H
       clear H
       have H := H1
       clear H1
       exact absurd H (by simp)
     ·
      replace c26 := Bool.eq_false_iff.mpr c26
      subst c26
      have H1 : (none) = some r := by rw [if_neg (show ¬ (false = true) by decide)] at H; exact H
      clear H
      have H := H1
      clear H1
      exact absurd H (by simp)
    ·
     replace c25 := Bool.eq_false_iff.mpr c25
     subst c25
     have H1 : (none) = some r := by rw [if_neg (show ¬ (false = true) by decide)] at H; exact H
     clear H
     have H := H1
     clear H1
     exact absurd H (by simp)
   ·
    rw [if_neg c22] at H
    exact absurd H (by simp)

/-- THE ONE PURE STATEMENT of quoinlaw15_LexNames: yours. -/
def quoinlaw15_LexNames.Pure : Prop := ∃ k, quoinlaw15_LexNames.f k  = some true
theorem quoinlaw15_LexNames.walk (P : quoinlaw15_LexNames.Pure)  (w : World) (hT : Lib.TabIs Tryd.prog w "internal/strconv.uint64pow10" .u64 Lib.pow10Tab) (hD : LexW.LexD w) (hE : LexW.LexE w) :
  Calls Tryd.prog 6 #[] w fun e w' => e = .returned (.bool true) ∧ Below w.heap.size w w' := by
 obtain ⟨k, h⟩ := P  
 refine (quoinlaw15_LexNames.calls k  true w hT hD hE h).mono ?_
 rintro e w' ⟨rfl, hd⟩
 exact ⟨rfl, hd⟩

end Go.Proofs.YtajnkmandhomlaaDoor.P
