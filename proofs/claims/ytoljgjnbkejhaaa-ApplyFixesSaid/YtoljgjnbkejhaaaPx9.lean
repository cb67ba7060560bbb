-- Written by pext.py, a program of this session, over the kit's print: a function's contract
import Derived.Test.YtoljgjnbkejhaaaPx0
import Derived.Test.YtoljgjnbkejhaaaPx1
import Derived.Test.YtoljgjnbkejhaaaPx3
import Derived.Test.YtoljgjnbkejhaaaPx8
namespace Go.Proofs.Ytoljgjnbkejhaaa.P
open Go.RowKit Go.Proofs.YtoljgjnbkejhaaaW.PrintWords Go.Proofs.YtoljgjnbkejhaaaW.PrintLast Go.Proofs.YtoljgjnbkejhaaaW.PrintMore
attribute [local go_sem] max2_int min2_int max_two min_two max_three min_three max_four min_four   -- for this text's walks alone
set_option linter.unusedVariables false
set_option linter.unusedSimpArgs false

/-! ### quoinlaw26_ApplyFixes: function 4 -/
mutual
def quoinlaw26_ApplyFixes.j0 : Nat → List Int → List Int → List Int → Bool → Option (Bool)
 | 0, _, _, _, _ => none
 | k + 1, x0, x7, x8, x89 => if x89 = true then (none) else (quoinlaw26_ApplyFixes.l0 k x0 x7 x8 0)
def quoinlaw26_ApplyFixes.l0 : Nat → List Int → List Int → List Int → Int → Option (Bool)
 | 0, _, _, _, _ => none
 | k + 1, x0, x7, x8, x20 => if x20 < (x8.length : Int) then (if 0 ≤ x20 then (quoinlaw26_ApplyFixes.l0 k x0 x7 (x8.set (x20 : Int).toNat (((rd x8 x20) + 1) % 256)) (wrap64 (x20 + 1))) else (none)) else (some ((strOfNums x7).toList == (strOfNums x0).toList))
end
def quoinlaw26_ApplyFixes.f (k : Nat) (l0 : List Int) (a1 : Int) (a2 : Int) : Option (Bool) := if (l0.length : Int) > 1000 then (some true) else (if ([] : List Int).length + l0.length < 140737488355328 then ((some (([] : List Int) ++ l0 : List Int)).bind fun y329 => ((apply_Fix.f k y329 a1 a2).bind fun bt332 => ((quoinref26_Fix.f k l0 a1 a2).bind fun bt336 => ((apply_High.f a2).bind fun bt340 => ((quoinref26_High.f a2).bind fun bt342 => ((apply_Low.f a2).bind fun bt344 => ((quoinref26_Low.f a2).bind fun bt346 => (if (strOfNums bt332.1).toList = (strOfNums bt336.1).toList then (if bt332.2 = bt336.2 then (if bt340.1 = bt342.1 then (if bt340.2 = bt342.2 then (if bt344.1 = bt346.1 then (quoinlaw26_ApplyFixes.j0 k l0 y329 bt332.1 (bt344.2 != bt346.2)) else (none)) else (none)) else (none)) else (none)) else (none))))))))) else (none))
theorem quoinlaw26_ApplyFixes.mono_l : ∀ k, (∀ y0 y1 y2 y3, LeO (quoinlaw26_ApplyFixes.j0 k y0 y1 y2 y3) (quoinlaw26_ApplyFixes.j0 (k + 1) y0 y1 y2 y3)) ∧ (∀ y0 y1 y2 y3, LeO (quoinlaw26_ApplyFixes.l0 k y0 y1 y2 y3) (quoinlaw26_ApplyFixes.l0 (k + 1) y0 y1 y2 y3))
 | 0 => ⟨fun _ _ _ _ r h => by simp [quoinlaw26_ApplyFixes.j0] at h, fun _ _ _ _ r h => by simp [quoinlaw26_ApplyFixes.l0] at h⟩
 | k + 1 => by
  obtain ⟨ih0, ih1⟩ := quoinlaw26_ApplyFixes.mono_l k
  refine ⟨?_, ?_⟩
  ·
   intro y0 y1 y2 y3
   unfold quoinlaw26_ApplyFixes.j0
   repeat' first
   | (with_reducible exact ih0 _ _ _ _)
   | (with_reducible exact ih1 _ _ _ _)
   | (with_reducible exact apply_Fix.mono _ _ _ _)
   | (with_reducible exact quoinref26_Fix.mono _ _ _ _)
   | (with_reducible exact LeO.refl _)
   | (with_reducible exact LeO.none _)
   | (with_reducible refine LeO.ite ?_ ?_)
   | (with_reducible refine LeO.bind ?_ (fun _ => ?_))
   | exact ih0 _ _ _ _
   | exact ih1 _ _ _ _
   | exact apply_Fix.mono _ _ _ _
   | exact quoinref26_Fix.mono _ _ _ _
   | exact LeO.none _
   | refine LeO.ite ?_ ?_
   | refine LeO.bind ?_ (fun _ => ?_)
  ·
   intro y0 y1 y2 y3
   unfold quoinlaw26_ApplyFixes.l0
   repeat' first
   | (with_reducible exact ih0 _ _ _ _)
   | (with_reducible exact ih1 _ _ _ _)
   | (with_reducible exact apply_Fix.mono _ _ _ _)
   | (with_reducible exact quoinref26_Fix.mono _ _ _ _)
   | (with_reducible exact LeO.refl _)
   | (with_reducible exact LeO.none _)
   | (with_reducible refine LeO.ite ?_ ?_)
   | (with_reducible refine LeO.bind ?_ (fun _ => ?_))
   | exact ih0 _ _ _ _
   | exact ih1 _ _ _ _
   | exact apply_Fix.mono _ _ _ _
   | exact quoinref26_Fix.mono _ _ _ _
   | exact LeO.none _
   | refine LeO.ite ?_ ?_
   | refine LeO.bind ?_ (fun _ => ?_)
theorem quoinlaw26_ApplyFixes.mono : ∀ a0 a1 a2 k, LeO (quoinlaw26_ApplyFixes.f k a0 a1 a2) (quoinlaw26_ApplyFixes.f (k + 1) a0 a1 a2) := by
 intro a0 a1 a2 k
 obtain ⟨ih0, ih1⟩ := quoinlaw26_ApplyFixes.mono_l k
 unfold quoinlaw26_ApplyFixes.f
 repeat' first
   | (with_reducible exact ih0 _ _ _ _)
   | (with_reducible exact ih1 _ _ _ _)
   | (with_reducible exact apply_Fix.mono _ _ _ _)
   | (with_reducible exact quoinref26_Fix.mono _ _ _ _)
   | (with_reducible exact LeO.refl _)
   | (with_reducible exact LeO.none _)
   | (with_reducible refine LeO.ite ?_ ?_)
   | (with_reducible refine LeO.bind ?_ (fun _ => ?_))
   | exact ih0 _ _ _ _
   | exact ih1 _ _ _ _
   | exact apply_Fix.mono _ _ _ _
   | exact quoinref26_Fix.mono _ _ _ _
   | exact LeO.none _
   | refine LeO.ite ?_ ?_
   | refine LeO.bind ?_ (fun _ => ?_)
set_option maxHeartbeats 8000000 in
set_option maxRecDepth 100000 in
theorem quoinlaw26_ApplyFixes.calls (k : Nat) (A0 : Option Addr) (c0 : Nat) (l0 : List Int) (a1 : Int) (a2 : Int) (r : Bool) (w : World) (hr0 : Kd.C (Kd.int .u8) w A0 l0.length l0) (hc0 : l0.length ≤ c0) (h : quoinlaw26_ApplyFixes.f k l0 a1 a2 = some r) :
  Calls Try.prog 4 #[.slice A0 l0.length c0, .int .u8 a1, .int .i64 a2] w fun e w' => e = .returned (.bool r) ∧ Below w.heap.size w w' := by
 have HR0 := Aside0.mk hr0
 have HC0 := Aside0.mk hc0
 clear hr0 hc0
 have HB := Aside0.mk (Below.refl w.heap.size w)
 have H : (if (l0.length : Int) > 1000 then (some true) else (if ([] : List Int).length + l0.length < 140737488355328 then ((some (([] : List Int) ++ l0 : List Int)).bind fun y329 => ((apply_Fix.f k y329 a1 a2).bind fun bt332 => ((quoinref26_Fix.f k l0 a1 a2).bind fun bt336 => ((apply_High.f a2).bind fun bt340 => ((quoinref26_High.f a2).bind fun bt342 => ((apply_Low.f a2).bind fun bt344 => ((quoinref26_Low.f a2).bind fun bt346 => (if (strOfNums bt332.1).toList = (strOfNums bt336.1).toList then (if bt332.2 = bt336.2 then (if bt340.1 = bt342.1 then (if bt340.2 = bt342.2 then (if bt344.1 = bt346.1 then (quoinlaw26_ApplyFixes.j0 k l0 y329 bt332.1 (bt344.2 != bt346.2)) else (none)) else (none)) else (none)) else (none)) else (none))))))))) else (none))) = some r := h
 clear h
 by_cases c4 : (l0.length : Int) > 1000
 ·
  rw [if_pos c4] at H
  have c4b0 : decide (1000 < (l0.length : Int)) = true := decide_eq_true c4
  have c4b1 : decide (1000 < l0.length) = true := decide_eq_true (by omega)
  clear c4
  obtain rfl := Option.some.inj H
  go_enter Try.func4, Try.ntmps4
  go_wp2
  go_ret
  exact ⟨by first | rfl | (simp [errW_none, errW_some] <;> rfl) | (simp [*, errW_none, errW_some] <;> rfl), by repeat (first | (with_reducible first | exact HB.out | apply below_alloc | apply pw_below_drewN | apply below_drew1) | exact HB.out)⟩
 ·
  rw [if_neg c4] at H
  have c4b0 : decide (1000 < (l0.length : Int)) = false := decide_eq_false c4
  have c4b1 : decide (1000 < l0.length) = false := decide_eq_false (by omega)
  clear c4
  by_cases c5 : ([] : List Int).length + l0.length < 140737488355328
  ·
   rw [if_pos c5] at H
   have LMc5 := Aside0.mk c5
   clear c5
   obtain ⟨y329, hy329⟩ : ∃ y_ : List Int, y_ = (([] : List Int) ++ l0) := ⟨_, rfl⟩
   replace H : ((apply_Fix.f k y329 a1 a2).bind fun bt332 => ((quoinref26_Fix.f k l0 a1 a2).bind fun bt336 => ((apply_High.f a2).bind fun bt340 => ((quoinref26_High.f a2).bind fun bt342 => ((apply_Low.f a2).bind fun bt344 => ((quoinref26_Low.f a2).bind fun bt346 => (if (strOfNums bt332.1).toList = (strOfNums bt336.1).toList then (if bt332.2 = bt336.2 then (if bt340.1 = bt342.1 then (if bt340.2 = bt342.2 then (if bt344.1 = bt346.1 then (quoinlaw26_ApplyFixes.j0 k l0 y329 bt332.1 (bt344.2 != bt346.2)) else (none)) else (none)) else (none)) else (none)) else (none)))))))) = some r := by first | (rw [hy329]; with_reducible exact H) | (have H2_ := (Option.bind_some _ _).symm.trans H; rw [hy329]; with_reducible exact H2_) | (have H2_ := (Option.bind_some _ _).symm.trans H; with_reducible exact H2_) | with_reducible exact H | (rw [hy329]; exact H) | exact H
   have Ny329 := Aside0.mk hy329
   clear hy329
   replace H := Option.bind_eq_some_iff.mp H
   obtain ⟨⟨t332, t333⟩, A60, H⟩ := H
   replace H : ((quoinref26_Fix.f k l0 a1 a2).bind fun bt336 => ((apply_High.f a2).bind fun bt340 => ((quoinref26_High.f a2).bind fun bt342 => ((apply_Low.f a2).bind fun bt344 => ((quoinref26_Low.f a2).bind fun bt346 => (if (strOfNums t332).toList = (strOfNums bt336.1).toList then (if t333 = bt336.2 then (if bt340.1 = bt342.1 then (if bt340.2 = bt342.2 then (if bt344.1 = bt346.1 then (quoinlaw26_ApplyFixes.j0 k l0 y329 t332 (bt344.2 != bt346.2)) else (none)) else (none)) else (none)) else (none)) else (none))))))) = some r := H
   have A6 := Aside0.mk A60
   clear A60
   replace H := Option.bind_eq_some_iff.mp H
   obtain ⟨⟨t336, t337⟩, A70, H⟩ := H
   replace H : ((apply_High.f a2).bind fun bt340 => ((quoinref26_High.f a2).bind fun bt342 => ((apply_Low.f a2).bind fun bt344 => ((quoinref26_Low.f a2).bind fun bt346 => (if (strOfNums t332).toList = (strOfNums t336).toList then (if t333 = t337 then (if bt340.1 = bt342.1 then (if bt340.2 = bt342.2 then (if bt344.1 = bt346.1 then (quoinlaw26_ApplyFixes.j0 k l0 y329 t332 (bt344.2 != bt346.2)) else (none)) else (none)) else (none)) else (none)) else (none)))))) = some r := H
   have A7 := Aside0.mk A70
   clear A70
   replace H := Option.bind_eq_some_iff.mp H
   obtain ⟨⟨t340, t341⟩, A80, H⟩ := H
   replace H : ((quoinref26_High.f a2).bind fun bt342 => ((apply_Low.f a2).bind fun bt344 => ((quoinref26_Low.f a2).bind fun bt346 => (if (strOfNums t332).toList = (strOfNums t336).toList then (if t333 = t337 then (if t340 = bt342.1 then (if t341 = bt342.2 then (if bt344.1 = bt346.1 then (quoinlaw26_ApplyFixes.j0 k l0 y329 t332 (bt344.2 != bt346.2)) else (none)) else (none)) else (none)) else (none)) else (none))))) = some r := H
   have A8 := Aside0.mk A80
   clear A80
   replace H := Option.bind_eq_some_iff.mp H
   obtain ⟨⟨t342, t343⟩, A90, H⟩ := H
   replace H : ((apply_Low.f a2).bind fun bt344 => ((quoinref26_Low.f a2).bind fun bt346 => (if (strOfNums t332).toList = (strOfNums t336).toList then (if t333 = t337 then (if t340 = t342 then (if t341 = t343 then (if bt344.1 = bt346.1 then (quoinlaw26_ApplyFixes.j0 k l0 y329 t332 (bt344.2 != bt346.2)) else (none)) else (none)) else (none)) else (none)) else (none)))) = some r := H
   have A9 := Aside0.mk A90
   clear A90
   replace H := Option.bind_eq_some_iff.mp H
   obtain ⟨⟨t344, t345⟩, A100, H⟩ := H
   replace H : ((quoinref26_Low.f a2).bind fun bt346 => (if (strOfNums t332).toList = (strOfNums t336).toList then (if t333 = t337 then (if t340 = t342 then (if t341 = t343 then (if t344 = bt346.1 then (quoinlaw26_ApplyFixes.j0 k l0 y329 t332 (t345 != bt346.2)) else (none)) else (none)) else (none)) else (none)) else (none))) = some r := H
   have A10 := Aside0.mk A100
   clear A100
   replace H := Option.bind_eq_some_iff.mp H
   obtain ⟨⟨t346, t347⟩, A110, H⟩ := H
   replace H : (if (strOfNums t332).toList = (strOfNums t336).toList then (if t333 = t337 then (if t340 = t342 then (if t341 = t343 then (if t344 = t346 then (quoinlaw26_ApplyFixes.j0 k l0 y329 t332 (t345 != t347)) else (none)) else (none)) else (none)) else (none)) else (none)) = some r := H
   have A11 := Aside0.mk A110
   clear A110
   have HC12 := Aside0.mk H
   clear H
   go_enter Try.func4, Try.ntmps4
   go_upto_region 10 with (first | ((with_reducible refine gate_builtin (b := .append) (xs := #[.const (.slice none 0 0), .tmp 24]) rfl ?_); at_builtin; refine Kd.R_append_rows (Kd.int .u8) (w0 := w) w.heap.size rfl (.const (.slice none 0 0)) (.tmp 24) 25 5 (.int .u8 0) 1 rfl Try.underlying25 info5 rfl (by decide) (by omega) (.slice none 0 0) ([] : List Int) l0 _ _ _ (fun _ => True) (fun _ => False) rfl rfl ?aO ?aR (fun _ _ h => h) (fun _ h => h.elim) ?aF ?aB ?aS ?aL ?_; (case aR => repeat (first | exact HR0.out | (with_reducible refine Kd.C_alloc ?_ _) | (with_reducible refine Kd.C_drewN ?_ _) | (with_reducible refine Kd.C_drew ?_))); (case aB => exact (by repeat (first | (with_reducible first | exact HB.out | apply below_alloc | apply pw_below_drewN | apply below_drew1) | exact HB.out))); (case aF => exact (fun _ _ => trivial)); (case aO => exact ((Kd.R_nil _ _ _ _ (fun _ => True)))); (case aS => exact (below_size (by repeat (first | (with_reducible first | exact HB.out | apply below_alloc | apply pw_below_drewN | apply below_drew1) | exact HB.out)))); (case aL => have := LMc5.out; omega); intro v330 w13 ho hb hg hat; rw [← Ny329.out] at ho; have n0_ := Aside0.mk (hb); have n1_ := Aside0.mk (ho); clear HB; have HB := n0_; have HO331 := n1_; clear n0_ n1_; clear ho hb hg hat; obtain ⟨Ao14, co14, eo14⟩ := Kd.R_slice HO331.out; subst eo14) | ((with_reducible refine gate_callee (f := 11) rfl ?_); refine goesL_ (some 30) rfl rfl Try.func11 (by kernel_rfl) rfl #[.slice Ao14 y329.length co14, .int .u8 a1, .int .i64 a2] rfl (by (try simp only [List.map_toArray, List.map_cons, List.map_nil]); first | done | rfl | (simp only [List.length_drop, List.length_take]; rfl)) ?_; (with_reducible refine (apply_Fix.calls k _ _ y329 a1 a2 t332 t333 _ ?side1 ?side2 A6.out).mono ?_); (case side1 => repeat (first | exact (Kd.R_reads' HO331.out).2.2 | (with_reducible refine Kd.C_alloc ?_ _) | (with_reducible refine Kd.C_drewN ?_ _) | (with_reducible refine Kd.C_drew ?_))); (case side2 => exact (Kd.R_reads' HO331.out).2.1); rintro e w15 ⟨v334, rfl, ho0, hb⟩; refine ⟨_, rfl, ?_⟩; have n0_ := Aside0.mk (Kd.R_elder' (by (with_reducible repeat (first | apply Kd.R_alloc | apply Kd.R_drewN | apply Kd.R_drew)); exact HO331.out) (Kd.Q_base ho0) hb); have n1_ := Aside0.mk (Kd.Q_lower (Kd.Q_new' ho0 (Kd.R_lt (by (with_reducible repeat (first | apply Kd.R_alloc | apply Kd.R_drewN | apply Kd.R_drew)); exact HO331.out))) (below_size (by repeat (first | (with_reducible first | exact HB.out | apply below_alloc | apply pw_below_drewN | apply below_drew1) | exact HB.out)))); have n2_ := Aside0.mk (below_step (by repeat (first | (with_reducible first | exact HB.out | apply below_alloc | apply pw_below_drewN | apply below_drew1) | exact HB.out)) hb); clear HO331; clear HB; have HO331 := n0_; have HO335 := n1_; have HB := n2_; clear n0_ n1_ n2_; (try clear hb); (try clear hb2); (try clear hk); (try clear hi); (try clear ho0)) | ((with_reducible refine gate_callee (f := 13) rfl ?_); refine goesL_ (some 37) rfl rfl Try.func13 (by kernel_rfl) rfl #[.slice A0 l0.length c0, .int .u8 a1, .int .i64 a2] rfl (by (try simp only [List.map_toArray, List.map_cons, List.map_nil]); first | done | rfl | (simp only [List.length_drop, List.length_take]; rfl)) ?_; (with_reducible refine (quoinref26_Fix.calls k _ _ l0 a1 a2 t336 t337 _ ?side1 ?side2 A7.out).mono ?_); (case side1 => repeat (first | exact (Kd.C_below HR0.out HB.out) | (with_reducible refine Kd.C_alloc ?_ _) | (with_reducible refine Kd.C_drewN ?_ _) | (with_reducible refine Kd.C_drew ?_))); (case side2 => exact HC0.out); rintro e w16 ⟨v338, rfl, ho0, hb⟩; refine ⟨_, rfl, ?_⟩; have n0_ := Aside0.mk (Kd.R_elder' (by (with_reducible repeat (first | apply Kd.R_alloc | apply Kd.R_drewN | apply Kd.R_drew)); exact HO331.out) (Kd.R_base ho0) hb); have n1_ := Aside0.mk (Kd.Q_elder' (by (with_reducible repeat (first | apply Kd.Q_alloc | apply Kd.Q_drewN | apply Kd.Q_drew)); exact HO335.out) (Kd.R_base ho0) hb); have n2_ := Aside0.mk (Kd.R_lower (Kd.R_new' (Kd.R_new' ho0 (Kd.R_lt (by (with_reducible repeat (first | apply Kd.R_alloc | apply Kd.R_drewN | apply Kd.R_drew)); exact HO331.out))) (Kd.Q_lt (by (with_reducible repeat (first | apply Kd.Q_alloc | apply Kd.Q_drewN | apply Kd.Q_drew)); exact HO335.out))) (below_size (by repeat (first | (with_reducible first | exact HB.out | apply below_alloc | apply pw_below_drewN | apply below_drew1) | exact HB.out)))); have n3_ := Aside0.mk (below_step (by repeat (first | (with_reducible first | exact HB.out | apply below_alloc | apply pw_below_drewN | apply below_drew1) | exact HB.out)) hb); clear HO331; clear HO335; clear HB; have HO331 := n0_; have HO335 := n1_; have HO339 := n2_; have HB := n3_; clear n0_ n1_ n2_ n3_; (try clear hb); (try clear hb2); (try clear hk); (try clear hi); (try clear ho0)) | ((with_reducible refine gate_callee (f := 9) rfl ?_); refine goesL_ (some 42) rfl rfl Try.func9 (by kernel_rfl) rfl #[.int .i64 a2] rfl (by (try simp only [List.map_toArray, List.map_cons, List.map_nil]); first | done | rfl | (simp only [List.length_drop, List.length_take]; rfl)) ?_; (with_reducible refine (apply_High.calls a2 t340 t341 _ A8.out).mono ?_); rintro e w' ⟨rfl, ⟨nd, rfl⟩⟩; refine ⟨_, rfl, ?_⟩) | ((with_reducible refine gate_callee (f := 14) rfl ?_); refine goesL_ (some 47) rfl rfl Try.func14 (by kernel_rfl) rfl #[.int .i64 a2] rfl (by (try simp only [List.map_toArray, List.map_cons, List.map_nil]); first | done | rfl | (simp only [List.length_drop, List.length_take]; rfl)) ?_; (with_reducible refine (quoinref26_High.calls a2 t342 t343 _ A9.out).mono ?_); rintro e w' ⟨rfl, ⟨nd, rfl⟩⟩; refine ⟨_, rfl, ?_⟩) | ((with_reducible refine gate_callee (f := 10) rfl ?_); refine goesL_ (some 52) rfl rfl Try.func10 (by kernel_rfl) rfl #[.int .i64 a2] rfl (by (try simp only [List.map_toArray, List.map_cons, List.map_nil]); first | done | rfl | (simp only [List.length_drop, List.length_take]; rfl)) ?_; (with_reducible refine (apply_Low.calls a2 t344 t345 _ A10.out).mono ?_); rintro e w' ⟨rfl, ⟨nd, rfl⟩⟩; refine ⟨_, rfl, ?_⟩) | ((with_reducible refine gate_callee (f := 15) rfl ?_); refine goesL_ (some 57) rfl rfl Try.func15 (by kernel_rfl) rfl #[.int .i64 a2] rfl (by (try simp only [List.map_toArray, List.map_cons, List.map_nil]); first | done | rfl | (simp only [List.length_drop, List.length_take]; rfl)) ?_; (with_reducible refine (quoinref26_Low.calls a2 t346 t347 _ A11.out).mono ?_); rintro e w' ⟨rfl, ⟨nd, rfl⟩⟩; refine ⟨_, rfl, ?_⟩))
   (try simp only [Act.put, List.setIfInBounds_toArray, List.set_cons_zero, List.set_cons_succ])
   go_cut [89] (fun v89 wc => ∃ (kq : Nat) (x89_11 : Bool), v89 = .bool x89_11 ∧ Aside0 (quoinlaw26_ApplyFixes.j0 kq l0 y329 t332 x89_11 = some r) ∧ Aside0 (kq ≤ k) ∧ Aside0 (Kd.R (Kd.int .u8) 5 wc w.heap.size (fun k_ => some k_ ≠ (v334 : Value).ownBlock) (.slice Ao14 y329.length co14) y329) ∧ Aside0 (Kd.Q (Kd.int .u8) 5 wc w.heap.size (fun k_ => some k_ ≠ ((.slice Ao14 y329.length co14) : Value).ownBlock) v334 t332) ∧ Aside0 (Below w.heap.size w wc))
   case first =>
    have H := HC12.out
    clear HC12
    by_cases c17 : (strOfNums t332).toList = (strOfNums t336).toList
    ·
     rw [if_pos c17] at H
     have c17b0 : ((strOfNums t332).toList == (strOfNums t336).toList) = true := beq_iff_eq.mpr c17
     have c17b1 : ((strOfNums t332).toList != (strOfNums t336).toList) = false := bne_eq_false_iff_eq.mpr c17
     clear c17
     (first | rw [c17b0] | (simp only [i64_w, i32_w]; rw [c17b0]) | skip)
     by_cases c18 : t333 = t337
     ·
      rw [if_pos c18] at H
      have c18b0 : (t333 == t337) = true := beq_iff_eq.mpr c18
      have c18b1 : (t333 != t337) = false := bne_eq_false_iff_eq.mpr c18
      clear c18
      by_cases c19 : t340 = t342
      ·
       rw [if_pos c19] at H
       have c19b0 : (t340 == t342) = true := beq_iff_eq.mpr c19
       have c19b1 : (t340 != t342) = false := bne_eq_false_iff_eq.mpr c19
       clear c19
       by_cases c20 : t341 = t343
       ·
        rw [if_pos c20] at H
        have c20b0 : (t341 == t343) = true := beq_iff_eq.mpr c20
        have c20b1 : (t341 != t343) = false := bne_eq_false_iff_eq.mpr c20
        clear c20
        by_cases c21 : t344 = t346
        ·
         rw [if_pos c21] at H
         have c21b0 : (t344 == t346) = true := beq_iff_eq.mpr c21
         have c21b1 : (t344 != t346) = false := bne_eq_false_iff_eq.mpr c21
         clear c21
         have H' := Aside0.mk H
         clear H
         have hcv22 := Kd.Q_string (P := Try.prog) Try.underlying25 Try.underlying5 Try.underlying9 (HO335.out)
         have hcv23 := fun n_ : Nat => Kd.Q_string (P := Try.prog) Try.underlying25 Try.underlying5 Try.underlying9 ((Kd.Q_drewN HO335.out n_))
         have hcv24 := own_string (P := Try.prog) Try.underlying25 Try.underlying5 Try.underlying9 (Kd.own_of_R HO339.out)
         have hcv25 := fun n_ : Nat => own_string (P := Try.prog) Try.underlying25 Try.underlying5 Try.underlying9 (Kd.own_of_R (Kd.R_drewN HO339.out n_))
         go_wp2
         go_meet
         case rel => exact ⟨_, ((t345 != t347)), (by first | rfl | (simp; done) | (simp [*]; done)), H', ⟨by first | omega | exact Nat.le_refl _⟩, ⟨by (with_reducible repeat (first | apply Kd.R_alloc | apply Kd.R_drewN | apply Kd.R_drew)); exact Kd.R_mono HO331.out (fun _ hk => hk.1.2)⟩, ⟨by (with_reducible repeat (first | apply Kd.Q_alloc | apply Kd.Q_drewN | apply Kd.Q_drew)); exact Kd.Q_mono HO335.out (fun _ hk => hk.1.2)⟩, ⟨by repeat (first | (with_reducible first | exact HB.out | apply below_alloc | apply pw_below_drewN | apply below_drew1) | exact HB.out)⟩⟩
        ·
         rw [if_neg c21] at H
         exact absurd H (by simp)
       ·
        rw [if_neg c20] at H
        exact absurd H (by simp)
      ·
       rw [if_neg c19] at H
       exact absurd H (by simp)
     ·
      rw [if_neg c18] at H
      exact absurd H (by simp)
    ·
     rw [if_neg c17] at H
     exact absurd H (by simp)
   case rest =>
    clear HC12
    try clear c1
    try clear c2
    try clear p2
    try clear hcv2
    try clear c4
    try clear c4b0
    try clear c4b1
    try clear c5
    try clear c9
    try clear c10
    try clear c11
    try clear c13
    try clear c14
    try clear c15
    try clear c17
    try clear c17b0
    try clear c17b1
    try clear c18
    try clear c18b0
    try clear c18b1
    try clear c19
    try clear c19b0
    try clear c19b1
    try clear c20
    try clear c20b0
    try clear c20b1
    try clear c21
    try clear c21b0
    try clear c21b1
    try clear hcv22
    try clear hcv23
    try clear hcv24
    try clear hcv25
    obtain ⟨kq, x89_11, rfl, HA, HJ11, HO_7, HO_8, HB⟩ := hcut
    cases kq with
    | zero => exact absurd HA.out (by simp [quoinlaw26_ApplyFixes.j0])
    | succ kj11 =>
     have H := HA.out
     clear HA
     simp only [quoinlaw26_ApplyFixes.j0] at H
     by_cases c26 : x89_11 = true
     ·
      subst c26
      have H1 : (none) = some r := by rw [if_pos rfl] at H; exact H
      clear H
      have H := H1
      clear H1
      exact absurd H (by simp)
     ·
      replace c26 := Bool.eq_false_iff.mpr c26
      subst c26
      have H1 : (quoinlaw26_ApplyFixes.l0 kj11 l0 y329 t332 0) = some r := by rw [if_neg (show ¬ (false = true) by decide)] at H; exact H
      clear H
      have H := H1
      clear H1
      have H' := Aside0.mk H
      clear H
      go_wp2
      go_loopg [20] kj11 (fun kq v20 w' => ∃ (x8_2 : List Int) (x20_2 : Int), v20 = .int .i64 x20_2 ∧ Aside0 (quoinlaw26_ApplyFixes.l0 kq l0 y329 x8_2 x20_2 = some r) ∧ Aside0 (kq ≤ kj11) ∧ Aside0 (Kd.R (Kd.int .u8) 5 w' w.heap.size (fun k_ => some k_ ≠ (v334 : Value).ownBlock) (.slice Ao14 y329.length co14) y329) ∧ Aside0 (Kd.Q (Kd.int .u8) 5 w' w.heap.size (fun k_ => some k_ ≠ ((.slice Ao14 y329.length co14) : Value).ownBlock) v334 x8_2) ∧ Aside0 (Below w.heap.size w w'))
      case atStart => exact ⟨(t332), (0), (by first | rfl | (simp; done) | (simp [*]; done)), H', ⟨Nat.le_refl _⟩, ⟨by (with_reducible repeat (first | apply Kd.R_alloc | apply Kd.R_drewN | apply Kd.R_drew)); exact HO_7.out⟩, ⟨by (with_reducible repeat (first | apply Kd.Q_alloc | apply Kd.Q_drewN | apply Kd.Q_drew)); exact HO_8.out⟩, ⟨by repeat (first | (with_reducible first | exact HB.out | apply below_alloc | apply pw_below_drewN | apply below_drew1) | exact HB.out)⟩⟩
      case round =>
       clear H'
       try clear c1
       try clear c2
       try clear p2
       try clear hcv2
       try clear c4
       try clear c4b0
       try clear c4b1
       try clear c5
       try clear c9
       try clear c10
       try clear c11
       try clear c13
       try clear c14
       try clear c15
       try clear c17
       try clear c17b0
       try clear c17b1
       try clear c18
       try clear c18b0
       try clear c18b1
       try clear c19
       try clear c19b0
       try clear c19b1
       try clear c20
       try clear c20b0
       try clear c20b1
       try clear c21
       try clear c21b0
       try clear c21b1
       try clear hcv22
       try clear hcv23
       try clear hcv24
       try clear hcv25
       try clear c26
       try clear p2
       obtain ⟨x8_2, x20_2, rfl, HA, HK2, HO_7, HO_8, HB⟩ := hrel
       cases gk with
       | zero => exact absurd HA.out (by simp [quoinlaw26_ApplyFixes.l0])
       | succ k2 =>
        have H := HA.out
        clear HA
        simp only [quoinlaw26_ApplyFixes.l0] at H
        by_cases c27 : x20_2 < (x8_2.length : Int)
        ·
         rw [if_pos c27] at H
         have c27b0 : decide (x20_2 < (x8_2.length : Int)) = true := decide_eq_true c27
         clear c27
         by_cases c28 : 0 ≤ x20_2
         ·
          rw [if_pos c28] at H
          have c28b0 : decide (0 ≤ x20_2) = true := decide_eq_true c28
          clear c28
          obtain ⟨y349, hy349⟩ : ∃ y_ : List Int, y_ = (x8_2.set (x20_2 : Int).toNat (((rd x8_2 x20_2) + 1) % 256)) := ⟨_, rfl⟩
          replace H : (quoinlaw26_ApplyFixes.l0 k2 l0 y329 y349 (wrap64 (x20_2 + 1))) = some r := by first | (rw [hy349]; with_reducible exact H) | (have H2_ := (Option.bind_some _ _).symm.trans H; rw [hy349]; with_reducible exact H2_) | (have H2_ := (Option.bind_some _ _).symm.trans H; with_reducible exact H2_) | with_reducible exact H | (rw [hy349]; exact H) | exact H
          have Ny349 := Aside0.mk hy349
          clear hy349
          have H' := Aside0.mk H
          clear H
          obtain ⟨Ao30, co30, eo30, _⟩ := Kd.Q_slice HO_8.out
          subst eo30
          have p348 : 0 ≤ (x20_2 : Int) := of_decide_eq_true (by first | (with_reducible assumption) | assumption)
          have q348 : x20_2 < (x8_2.length : Int) := of_decide_eq_true (by first | (with_reducible assumption) | assumption)
          obtain ⟨ad348, e348, hx348_0⟩ := Kd.at_int (Kd.Q_reads' HO_8.out).2.2 x20_2 p348 q348
          cases e348
          replace p348 := eq_true p348
          replace q348 := eq_true q348
          have p29 : 0 ≤ (x20_2 : Int) := of_decide_eq_true (by first | (with_reducible assumption) | assumption)
          have q29 : (x20_2 : Int) < ((x8_2.length : Int) : Int) := of_decide_eq_true (by first | (with_reducible assumption) | assumption)
          obtain ⟨go29, oo29, co29, eo29, gb29, gl29, cl29, HG29⟩ := Kd.Q_form HO_8.out (by omega)
          (first | cases eo29 | (injection eo29 with ea_ en_ ec_; (first | subst ea_ | (injection ea_ with ea_; subst ea_)); subst ec_; clear en_))
          have GB29 := Aside0.mk gb29
          have GG29 := Aside0.mk HG29
          clear gb29 gl29 HG29
          (first | simp only [add_at] at hx348_0 | skip)
          obtain ⟨hx29_0, hf29_0⟩ := Kd.Q_cell 0 HO_8.out (x20_2 : Int) p29 q29
          replace p29 := eq_true p29
          replace q29 := eq_true q29
          have HP31 := Kd.Q_putg HO_8.out (x20_2 : Int) (of_decide_eq_true (by first | (with_reducible assumption) | assumption)) (by have h_ : (x20_2 : Int) < ((x8_2.length : Int) : Int) := of_decide_eq_true (by first | (with_reducible assumption) | assumption); first | exact h_ | (have e_ := (Kd.Q_reads' HO_8.out).1; omega) | simpa using h_) (((rd x8_2 x20_2) + 1) % 256)
          go_wp2_with (first | ((with_reducible refine gate_store (t := 5) (p := 103) rfl ?_); refine store_event (t := 5) (p := 103) (v := ?vo_w32) (w1 := (wr.setCell ⟨go29, oo29 + (x20_2 : Int).toNat, none⟩ (.int .u8 (((rd x8_2 x20_2) + 1) % 256)))) ?hg ?ho ?hn ?hr ?_; (case ho => rfl); (case hg => rfl); (case hn => rfl); (case hr => first | (go_simp; done) | (go_simp; rfl)); intro w32 hw; have hg : wr.grownBy w32 (some go29) := (by rw [hw]; exact HP31.2); have hp_ : Kd.Q (Kd.int .u8) 5 w32 w.heap.size (fun k_ => some k_ ≠ (.slice Ao14 y329.length co14 : Value).ownBlock) (.slice (some ⟨go29, oo29, none⟩) x8_2.length co30) y349 := (by rw [hw, Ny349.out]; exact HP31.1); clear HP31; have n0_ := Aside0.mk (Kd.R_after (v := (.slice (some ⟨go29, oo29, none⟩) x8_2.length co30)) (v1 := (.slice (some ⟨go29, oo29, none⟩) x8_2.length co30)) (ok := (fun _ => True)) (by (with_reducible repeat (first | apply Kd.R_alloc | apply Kd.R_drewN | apply Kd.R_drew)); exact Kd.R_mono HO_7.out (fun _ hk => ⟨trivial, hk⟩)) hg (.inl rfl)); have n1_ := Aside0.mk (hp_); have n2_ := Aside0.mk ((by rw [hw]; exact below_set (HB.out) GB29.out : Below w.heap.size w w32)); clear HO_7; clear HO_8; clear HB; have HO_7 := n0_; have HO_8 := n1_; have HB := n2_; clear n0_ n1_ n2_; clear hg hw hp_))
          go_roundg k2
          case measure => have := HJ11.out; have := HK2.out; omega
          case rel => exact ⟨(y349), (wrap64 (x20_2 + 1)), (by first | rfl | (simp; done) | (simp [*]; done)), H', ⟨by have := HJ11.out; have := HK2.out; omega⟩, ⟨by (with_reducible repeat (first | apply Kd.R_alloc | apply Kd.R_drewN | apply Kd.R_drew)); exact Kd.R_mono HO_7.out (fun _ hk => hk.2)⟩, ⟨by (with_reducible repeat (first | apply Kd.Q_alloc | apply Kd.Q_drewN | apply Kd.Q_drew)); exact HO_8.out⟩, ⟨by repeat (first | (with_reducible first | exact HB.out | apply below_alloc | apply pw_below_drewN | apply below_drew1) | exact HB.out)⟩⟩
         ·
          rw [if_neg c28] at H
          exact absurd H (by simp)
        ·
         rw [if_neg c27] at H
         have c27b0 : decide (x20_2 < (x8_2.length : Int)) = false := decide_eq_false c27
         clear c27
         obtain rfl := Option.some.inj H
         obtain ⟨Ao33, co33, eo33, _⟩ := Kd.Q_slice HO_8.out
         subst eo33
         have hcv34 := own_string (P := Try.prog) Try.underlying25 Try.underlying5 Try.underlying9 (Kd.own_of_R HO_7.out)
         have hcv35 := fun n_ : Nat => own_string (P := Try.prog) Try.underlying25 Try.underlying5 Try.underlying9 (Kd.own_of_R (Kd.R_drewN HO_7.out n_))
         have hcv36 := Kd.C_string (P := Try.prog) (A := A0) (c := c0) Try.underlying25 Try.underlying5 Try.underlying9 (Kd.C_below HR0.out HB.out)
         have hcv37 := fun n_ : Nat => Kd.C_string (P := Try.prog) (A := A0) (c := c0) Try.underlying25 Try.underlying5 Try.underlying9 (Kd.C_drewN (Kd.C_below HR0.out HB.out) n_)
         go_wp2
         go_ret
         exact ⟨by first | rfl | (simp [errW_none, errW_some] <;> rfl) | (simp [*, errW_none, errW_some] <;> rfl), by repeat (first | (with_reducible first | exact HB.out | apply below_alloc | apply pw_below_drewN | apply below_drew1) | exact HB.out)⟩
  ·
   rw [if_neg c5] at H
   exact absurd H (by simp)

/-- THE ONE PURE STATEMENT of quoinlaw26_ApplyFixes: yours. -/
def quoinlaw26_ApplyFixes.Pure : Prop := ∀ (l0 : List Int) (a1 : Int) (a2 : Int), l0.length ≤ maxLen → l0.length * 1 ≤ 140737488351232 → (∀ x ∈ l0, (Lit.int .u8 x).wf = true) → (Lit.int .u8 a1).wf = true → (Lit.int .i64 a2).wf = true → ∃ k, quoinlaw26_ApplyFixes.f k l0 a1 a2 = some true
theorem quoinlaw26_ApplyFixes.walk (P : quoinlaw26_ApplyFixes.Pure) (a0 : Option Addr) (len0 cap0 : Nat) (z0 : List Int) (a1 : Int) (a2 : Int) (w : World) (w0 : (a0 = none ∧ len0 = 0 ∧ cap0 = 0 ∧ z0 = []) ∨ ∃ x, a0 = some x ∧ len0 ≤ cap0 ∧ cap0 ≤ maxLen ∧ z0.length = cap0 ∧ (∀ i, i < z0.length → w.cell? (x.add i) = some (.int .u8 (z0.getD i 0))) ∧ ∀ n ∈ z0, (Lit.int .u8 n).wf = true) (y0 : len0 * 1 ≤ 140737488351232) (w1 : (Lit.int .u8 a1).wf = true) (w2 : (Lit.int .i64 a2).wf = true) :
  Calls Try.prog 4 #[.slice a0 len0 cap0, .int .u8 a1, .int .i64 a2] w fun e w' => e = .returned (.bool true) ∧ Below w.heap.size w w' := by
 obtain ⟨l0, rfl, hr0, hm0, hw0, hc0⟩ := ReadsInt.ofRowC w0
 obtain ⟨k, h⟩ := P l0 a1 a2 hm0 y0 hw0 w1 w2
 refine (quoinlaw26_ApplyFixes.calls k _ _ l0 a1 a2 true w (Kd.C_of_reads (d := (0 : Int)) (h1 := fun _ => rfl) hr0) hc0 h).mono ?_
 rintro e w' ⟨rfl, hd⟩
 exact ⟨rfl, hd⟩

end Go.Proofs.Ytoljgjnbkejhaaa.P
