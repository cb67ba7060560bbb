-- Written by pext.py, a program of this session, over the kit's print: a function's contract
import Derived.Test.YtoljgjnbkejhaaaPx0
import Derived.Test.YtoljgjnbkejhaaaPx1
import Derived.Test.YtoljgjnbkejhaaaPx2
namespace Go.Proofs.Ytoljgjnbkejhaaa.P
open Go.RowKit Go.Proofs.YtoljgjnbkejhaaaW.PrintWords Go.Proofs.YtoljgjnbkejhaaaW.PrintLast Go.Proofs.YtoljgjnbkejhaaaW.PrintMore
attribute [local go_sem] max2_int min2_int max_two min_two max_three min_three max_four min_four   -- for this text's walks alone
set_option linter.unusedVariables false
set_option linter.unusedSimpArgs false

/-! ### apply_Fix: function 11 -/
mutual
def apply_Fix.j0 : Nat → List Int → Int → Int → Int → Int → Bool → Option (List Int × Int)
 | 0, _, _, _, _, _, _ => none
 | k + 1, x0, x1, x8, x9, x10, x49 => if x49 = true then (some (([] : List Int), x9)) else ((le_Get.f k x0 0 x8).bind fun bt179 => (if x1 = 1 then (apply_Fix.j1 k x1 x8 x10 (IntKind.u64.wrap (bt179.1)) (x1 == 1)) else (apply_Fix.j1 k x1 x8 x10 (IntKind.u64.wrap (bt179.1)) (x1 == 2))))
def apply_Fix.j3 : Nat → Int → Int → Int → Int → Option (List Int × Int)
 | 0, _, _, _, _ => none
 | k + 1, x1, x8, x10, x13 => (apply_rows.f k x1).bind fun t181 => (apply_Fix.l0 k x8 x10 x13 t181 (t181.length : Int) 0)
def apply_Fix.l0 : Nat → Int → Int → Int → List (S48) → Int → Int → Option (List Int × Int)
 | 0, _, _, _, _, _, _ => none
 | k + 1, x8, x10, x13, x89, x90, x91 => if x91 < x90 then (if 0 ≤ x91 then (if x91 < (x89.length : Int) then (if 0 ≤ ((rd_T48 x89 x91).f2) then (if 0 ≤ ((rd_T48 x89 x91).f1) then (if 0 ≤ ((rd_T48 x89 x91).f0) then (apply_Fix.l0 k x8 x10 (Go.bits .or .u64 (Go.bits .andNot .u64 x13 (shl .u64 (IntKind.u64.wrap ((shl .u64 1 ((rd_T48 x89 x91).f2)) - 1)) ((rd_T48 x89 x91).f1))) (shl .u64 (Go.bits .and .u64 (shr .u64 (IntKind.u64.wrap (x10)) ((rd_T48 x89 x91).f0)) (IntKind.u64.wrap ((shl .u64 1 ((rd_T48 x89 x91).f2)) - 1))) ((rd_T48 x89 x91).f1))) x89 x90 (wrap64 (x91 + 1))) else (none)) else (none)) else (none)) else (none)) else (none)) else ((le_Put.f k (wrap64 (x13)) 8).bind fun bt186 => (if 0 ≤ x8 then (if x8 ≤ (bt186.1.length : Int) then (some ((bt186.1.take (x8 : Int).toNat), 0)) else (none)) else (none)))
def apply_Fix.j1 : Nat → Int → Int → Int → Int → Bool → Option (List Int × Int)
 | 0, _, _, _, _, _ => none
 | k + 1, x1, x8, x10, x13, x59 => if x59 = true then (apply_Fix.j3 k x1 x8 x10 (IntKind.u64.wrap (x10))) else (if x1 ≥ 33 then (apply_Fix.j2 k x1 x8 x10 x13 (decide (x1 ≤ 36))) else (apply_Fix.j2 k x1 x8 x10 x13 false))
def apply_Fix.j2 : Nat → Int → Int → Int → Int → Bool → Option (List Int × Int)
 | 0, _, _, _, _, _ => none
 | k + 1, x1, x8, x10, x13, x66 => if x66 = true then (apply_Fix.j3 k x1 x8 x10 (IntKind.u64.wrap (x13 + (IntKind.u64.wrap (x10))))) else (if x1 ≥ 37 then (if x1 ≤ 40 then (apply_Fix.j3 k x1 x8 x10 (IntKind.u64.wrap (x13 - (IntKind.u64.wrap (x10))))) else (apply_Fix.j3 k x1 x8 x10 x13)) else (apply_Fix.j3 k x1 x8 x10 x13))
end
def apply_Fix.f (k : Nat) (l0 : List Int) (a1 : Int) (a2 : Int) : Option (List Int × Int) := (rela_Field.f k a1).bind fun bt171 => (if bt171.2 = 0 then (if (l0.length : Int) = bt171.1 then (if a1 = 18 then ((apply_call.f k l0 a2).bind fun bt173 => (some (bt173.1, bt173.2))) else ((apply_part.f k a1 a2).bind fun bt177 => (if bt177.2 = 0 then (apply_Fix.j0 k l0 a1 bt171.1 bt177.2 bt177.1 (bt171.1 == 0)) else (apply_Fix.j0 k l0 a1 bt171.1 bt177.2 bt177.1 true)))) else (some (([] : List Int), 3))) else (some (([] : List Int), bt171.2)))
theorem apply_Fix.mono_l : ∀ k, (∀ y0 y1 y2 y3 y4 y5, LeO (apply_Fix.j0 k y0 y1 y2 y3 y4 y5) (apply_Fix.j0 (k + 1) y0 y1 y2 y3 y4 y5)) ∧ (∀ y0 y1 y2 y3, LeO (apply_Fix.j3 k y0 y1 y2 y3) (apply_Fix.j3 (k + 1) y0 y1 y2 y3)) ∧ (∀ y0 y1 y2 y3 y4 y5, LeO (apply_Fix.l0 k y0 y1 y2 y3 y4 y5) (apply_Fix.l0 (k + 1) y0 y1 y2 y3 y4 y5)) ∧ (∀ y0 y1 y2 y3 y4, LeO (apply_Fix.j1 k y0 y1 y2 y3 y4) (apply_Fix.j1 (k + 1) y0 y1 y2 y3 y4)) ∧ (∀ y0 y1 y2 y3 y4, LeO (apply_Fix.j2 k y0 y1 y2 y3 y4) (apply_Fix.j2 (k + 1) y0 y1 y2 y3 y4))
 | 0 => ⟨fun _ _ _ _ _ _ r h => by simp [apply_Fix.j0] at h, fun _ _ _ _ r h => by simp [apply_Fix.j3] at h, fun _ _ _ _ _ _ r h => by simp [apply_Fix.l0] at h, fun _ _ _ _ _ r h => by simp [apply_Fix.j1] at h, fun _ _ _ _ _ r h => by simp [apply_Fix.j2] at h⟩
 | k + 1 => by
  obtain ⟨ih0, ih1, ih2, ih3, ih4⟩ := apply_Fix.mono_l k
  refine ⟨?_, ?_, ?_, ?_, ?_⟩
  ·
   intro y0 y1 y2 y3 y4 y5
   unfold apply_Fix.j0
   repeat' first
   | (with_reducible exact ih0 _ _ _ _ _ _)
   | (with_reducible exact ih1 _ _ _ _)
   | (with_reducible exact ih2 _ _ _ _ _ _)
   | (with_reducible exact ih3 _ _ _ _ _)
   | (with_reducible exact ih4 _ _ _ _ _)
   | (with_reducible exact apply_call.mono _ _ _)
   | (with_reducible exact apply_part.mono _ _ _)
   | (with_reducible exact apply_rows.mono _ _)
   | (with_reducible exact le_Get.mono _ _ _ _)
   | (with_reducible exact le_Put.mono _ _ _)
   | (with_reducible exact rela_Field.mono _ _)
   | (with_reducible exact LeO.refl _)
   | (with_reducible exact LeO.none _)
   | (with_reducible refine LeO.ite ?_ ?_)
   | (with_reducible refine LeO.bind ?_ (fun _ => ?_))
   | exact ih0 _ _ _ _ _ _
   | exact ih1 _ _ _ _
   | exact ih2 _ _ _ _ _ _
   | exact ih3 _ _ _ _ _
   | exact ih4 _ _ _ _ _
   | exact apply_call.mono _ _ _
   | exact apply_part.mono _ _ _
   | exact apply_rows.mono _ _
   | exact le_Get.mono _ _ _ _
   | exact le_Put.mono _ _ _
   | exact rela_Field.mono _ _
   | exact LeO.none _
   | refine LeO.ite ?_ ?_
   | refine LeO.bind ?_ (fun _ => ?_)
  ·
   intro y0 y1 y2 y3
   unfold apply_Fix.j3
   repeat' first
   | (with_reducible exact ih0 _ _ _ _ _ _)
   | (with_reducible exact ih1 _ _ _ _)
   | (with_reducible exact ih2 _ _ _ _ _ _)
   | (with_reducible exact ih3 _ _ _ _ _)
   | (with_reducible exact ih4 _ _ _ _ _)
   | (with_reducible exact apply_call.mono _ _ _)
   | (with_reducible exact apply_part.mono _ _ _)
   | (with_reducible exact apply_rows.mono _ _)
   | (with_reducible exact le_Get.mono _ _ _ _)
   | (with_reducible exact le_Put.mono _ _ _)
   | (with_reducible exact rela_Field.mono _ _)
   | (with_reducible exact LeO.refl _)
   | (with_reducible exact LeO.none _)
   | (with_reducible refine LeO.ite ?_ ?_)
   | (with_reducible refine LeO.bind ?_ (fun _ => ?_))
   | exact ih0 _ _ _ _ _ _
   | exact ih1 _ _ _ _
   | exact ih2 _ _ _ _ _ _
   | exact ih3 _ _ _ _ _
   | exact ih4 _ _ _ _ _
   | exact apply_call.mono _ _ _
   | exact apply_part.mono _ _ _
   | exact apply_rows.mono _ _
   | exact le_Get.mono _ _ _ _
   | exact le_Put.mono _ _ _
   | exact rela_Field.mono _ _
   | exact LeO.none _
   | refine LeO.ite ?_ ?_
   | refine LeO.bind ?_ (fun _ => ?_)
  ·
   intro y0 y1 y2 y3 y4 y5
   unfold apply_Fix.l0
   repeat' first
   | (with_reducible exact ih0 _ _ _ _ _ _)
   | (with_reducible exact ih1 _ _ _ _)
   | (with_reducible exact ih2 _ _ _ _ _ _)
   | (with_reducible exact ih3 _ _ _ _ _)
   | (with_reducible exact ih4 _ _ _ _ _)
   | (with_reducible exact apply_call.mono _ _ _)
   | (with_reducible exact apply_part.mono _ _ _)
   | (with_reducible exact apply_rows.mono _ _)
   | (with_reducible exact le_Get.mono _ _ _ _)
   | (with_reducible exact le_Put.mono _ _ _)
   | (with_reducible exact rela_Field.mono _ _)
   | (with_reducible exact LeO.refl _)
   | (with_reducible exact LeO.none _)
   | (with_reducible refine LeO.ite ?_ ?_)
   | (with_reducible refine LeO.bind ?_ (fun _ => ?_))
   | exact ih0 _ _ _ _ _ _
   | exact ih1 _ _ _ _
   | exact ih2 _ _ _ _ _ _
   | exact ih3 _ _ _ _ _
   | exact ih4 _ _ _ _ _
   | exact apply_call.mono _ _ _
   | exact apply_part.mono _ _ _
   | exact apply_rows.mono _ _
   | exact le_Get.mono _ _ _ _
   | exact le_Put.mono _ _ _
   | exact rela_Field.mono _ _
   | exact LeO.none _
   | refine LeO.ite ?_ ?_
   | refine LeO.bind ?_ (fun _ => ?_)
  ·
   intro y0 y1 y2 y3 y4
   unfold apply_Fix.j1
   repeat' first
   | (with_reducible exact ih0 _ _ _ _ _ _)
   | (with_reducible exact ih1 _ _ _ _)
   | (with_reducible exact ih2 _ _ _ _ _ _)
   | (with_reducible exact ih3 _ _ _ _ _)
   | (with_reducible exact ih4 _ _ _ _ _)
   | (with_reducible exact apply_call.mono _ _ _)
   | (with_reducible exact apply_part.mono _ _ _)
   | (with_reducible exact apply_rows.mono _ _)
   | (with_reducible exact le_Get.mono _ _ _ _)
   | (with_reducible exact le_Put.mono _ _ _)
   | (with_reducible exact rela_Field.mono _ _)
   | (with_reducible exact LeO.refl _)
   | (with_reducible exact LeO.none _)
   | (with_reducible refine LeO.ite ?_ ?_)
   | (with_reducible refine LeO.bind ?_ (fun _ => ?_))
   | exact ih0 _ _ _ _ _ _
   | exact ih1 _ _ _ _
   | exact ih2 _ _ _ _ _ _
   | exact ih3 _ _ _ _ _
   | exact ih4 _ _ _ _ _
   | exact apply_call.mono _ _ _
   | exact apply_part.mono _ _ _
   | exact apply_rows.mono _ _
   | exact le_Get.mono _ _ _ _
   | exact le_Put.mono _ _ _
   | exact rela_Field.mono _ _
   | exact LeO.none _
   | refine LeO.ite ?_ ?_
   | refine LeO.bind ?_ (fun _ => ?_)
  ·
   intro y0 y1 y2 y3 y4
   unfold apply_Fix.j2
   repeat' first
   | (with_reducible exact ih0 _ _ _ _ _ _)
   | (with_reducible exact ih1 _ _ _ _)
   | (with_reducible exact ih2 _ _ _ _ _ _)
   | (with_reducible exact ih3 _ _ _ _ _)
   | (with_reducible exact ih4 _ _ _ _ _)
   | (with_reducible exact apply_call.mono _ _ _)
   | (with_reducible exact apply_part.mono _ _ _)
   | (with_reducible exact apply_rows.mono _ _)
   | (with_reducible exact le_Get.mono _ _ _ _)
   | (with_reducible exact le_Put.mono _ _ _)
   | (with_reducible exact rela_Field.mono _ _)
   | (with_reducible exact LeO.refl _)
   | (with_reducible exact LeO.none _)
   | (with_reducible refine LeO.ite ?_ ?_)
   | (with_reducible refine LeO.bind ?_ (fun _ => ?_))
   | exact ih0 _ _ _ _ _ _
   | exact ih1 _ _ _ _
   | exact ih2 _ _ _ _ _ _
   | exact ih3 _ _ _ _ _
   | exact ih4 _ _ _ _ _
   | exact apply_call.mono _ _ _
   | exact apply_part.mono _ _ _
   | exact apply_rows.mono _ _
   | exact le_Get.mono _ _ _ _
   | exact le_Put.mono _ _ _
   | exact rela_Field.mono _ _
   | exact LeO.none _
   | refine LeO.ite ?_ ?_
   | refine LeO.bind ?_ (fun _ => ?_)
theorem apply_Fix.mono : ∀ a0 a1 a2 k, LeO (apply_Fix.f k a0 a1 a2) (apply_Fix.f (k + 1) a0 a1 a2) := by
 intro a0 a1 a2 k
 obtain ⟨ih0, ih1, ih2, ih3, ih4⟩ := apply_Fix.mono_l k
 unfold apply_Fix.f
 repeat' first
   | (with_reducible exact ih0 _ _ _ _ _ _)
   | (with_reducible exact ih1 _ _ _ _)
   | (with_reducible exact ih2 _ _ _ _ _ _)
   | (with_reducible exact ih3 _ _ _ _ _)
   | (with_reducible exact ih4 _ _ _ _ _)
   | (with_reducible exact apply_call.mono _ _ _)
   | (with_reducible exact apply_part.mono _ _ _)
   | (with_reducible exact apply_rows.mono _ _)
   | (with_reducible exact le_Get.mono _ _ _ _)
   | (with_reducible exact le_Put.mono _ _ _)
   | (with_reducible exact rela_Field.mono _ _)
   | (with_reducible exact LeO.refl _)
   | (with_reducible exact LeO.none _)
   | (with_reducible refine LeO.ite ?_ ?_)
   | (with_reducible refine LeO.bind ?_ (fun _ => ?_))
   | exact ih0 _ _ _ _ _ _
   | exact ih1 _ _ _ _
   | exact ih2 _ _ _ _ _ _
   | exact ih3 _ _ _ _ _
   | exact ih4 _ _ _ _ _
   | exact apply_call.mono _ _ _
   | exact apply_part.mono _ _ _
   | exact apply_rows.mono _ _
   | exact le_Get.mono _ _ _ _
   | exact le_Put.mono _ _ _
   | exact rela_Field.mono _ _
   | exact LeO.none _
   | refine LeO.ite ?_ ?_
   | refine LeO.bind ?_ (fun _ => ?_)
set_option maxHeartbeats 8000000 in
set_option maxRecDepth 100000 in
theorem apply_Fix.calls (k : Nat) (A0 : Option Addr) (c0 : Nat) (l0 : List Int) (a1 : Int) (a2 : Int) (r1 : List Int) (r2 : Int) (w : World) (hr0 : Kd.C (Kd.int .u8) w A0 l0.length l0) (hc0 : l0.length ≤ c0) (h : apply_Fix.f k l0 a1 a2 = some (r1, r2)) :
  Calls Try.prog 11 #[.slice A0 l0.length c0, .int .u8 a1, .int .i64 a2] w fun e w' => ∃ v0_ : Value, e = .returned (.tuple #[v0_, .int .i64 r2]) ∧ Kd.Q (Kd.int .u8) 5 w' w.heap.size (fun _ => True) v0_ r1 ∧ Below w.heap.size w w' := by
 have hu48 := Try.underlying48
 have HR0 := Aside0.mk hr0
 have HC0 := Aside0.mk hc0
 clear hr0 hc0
 have HB := Aside0.mk (Below.refl w.heap.size w)
 have H : ((rela_Field.f k a1).bind fun bt171 => (if bt171.2 = 0 then (if (l0.length : Int) = bt171.1 then (if a1 = 18 then ((apply_call.f k l0 a2).bind fun bt173 => (some (bt173.1, bt173.2))) else ((apply_part.f k a1 a2).bind fun bt177 => (if bt177.2 = 0 then (apply_Fix.j0 k l0 a1 bt171.1 bt177.2 bt177.1 (bt171.1 == 0)) else (apply_Fix.j0 k l0 a1 bt171.1 bt177.2 bt177.1 true)))) else (some (([] : List Int), 3))) else (some (([] : List Int), bt171.2)))) = some (r1, r2) := h
 clear h
 replace H := Option.bind_eq_some_iff.mp H
 obtain ⟨⟨t171, t172⟩, A40, H⟩ := H
 replace H : (if t172 = 0 then (if (l0.length : Int) = t171 then (if a1 = 18 then ((apply_call.f k l0 a2).bind fun bt173 => (some (bt173.1, bt173.2))) else ((apply_part.f k a1 a2).bind fun bt177 => (if bt177.2 = 0 then (apply_Fix.j0 k l0 a1 t171 bt177.2 bt177.1 (t171 == 0)) else (apply_Fix.j0 k l0 a1 t171 bt177.2 bt177.1 true)))) else (some (([] : List Int), 3))) else (some (([] : List Int), t172))) = some (r1, r2) := H
 have A4 := Aside0.mk A40
 clear A40
 by_cases c5 : t172 = 0
 ·
  rw [if_pos c5] at H
  have c5b0 : (t172 == 0) = true := beq_iff_eq.mpr c5
  have c5b1 : (t172 != 0) = false := bne_eq_false_iff_eq.mpr c5
  clear c5
  by_cases c6 : (l0.length : Int) = t171
  ·
   rw [if_pos c6] at H
   have c6b0 : ((l0.length : Int) == t171) = true := beq_iff_eq.mpr c6
   have c6b1 : ((l0.length : Int) != t171) = false := bne_eq_false_iff_eq.mpr c6
   clear c6
   by_cases c7 : a1 = 18
   ·
    rw [if_pos c7] at H
    have c7b0 : (a1 == 18) = true := beq_iff_eq.mpr c7
    have c7b1 : (a1 != 18) = false := bne_eq_false_iff_eq.mpr c7
    clear c7
    replace H := Option.bind_eq_some_iff.mp H
    obtain ⟨⟨t173, t174⟩, A80, H⟩ := H
    replace H : (some (t173, t174)) = some (r1, r2) := H
    have A8 := Aside0.mk A80
    clear A80
    simp only [Option.some.injEq, Prod.mk.injEq] at H
    obtain ⟨rfl, rfl⟩ := H
    go_enter Try.func11, Try.ntmps11
    go_wp2_with (first | ((with_reducible refine gate_callee (f := 17) rfl ?_); refine goesL_ (some 21) rfl rfl Try.func17 (by kernel_rfl) rfl #[.int .u8 a1] rfl (by (try simp only [List.map_toArray, List.map_cons, List.map_nil]); first | done | rfl | (simp only [List.length_drop, List.length_take]; rfl)) ?_; (with_reducible refine (rela_Field.calls k a1 t171 t172 _ A4.out).mono ?_); rintro e w' ⟨rfl, ⟨nd, rfl⟩⟩; refine ⟨_, rfl, ?_⟩) | ((with_reducible refine gate_callee (f := 18) rfl ?_); refine goesL_ (some 35) rfl rfl Try.func18 (by kernel_rfl) rfl #[.slice A0 l0.length c0, .int .i64 a2] rfl (by (try simp only [List.map_toArray, List.map_cons, List.map_nil]); first | done | rfl | (simp only [List.length_drop, List.length_take]; rfl)) ?_; (with_reducible refine (apply_call.calls k _ _ l0 a2 t173 t174 _ ?side1 ?side2 A8.out).mono ?_); (case side1 => repeat (first | exact HR0.out | (with_reducible refine Kd.C_alloc ?_ _) | (with_reducible refine Kd.C_drewN ?_ _) | (with_reducible refine Kd.C_drew ?_))); (case side2 => exact HC0.out); rintro e w9 ⟨v175, rfl, ho0, hb⟩; refine ⟨_, rfl, ?_⟩; have n0_ := Aside0.mk (Kd.Q_lower ho0 (below_size (by repeat (first | (with_reducible first | exact HB.out | apply below_alloc | apply pw_below_drewN | apply below_drew1) | exact HB.out)))); have n1_ := Aside0.mk (below_step (by repeat (first | (with_reducible first | exact HB.out | apply below_alloc | apply pw_below_drewN | apply below_drew1) | exact HB.out)) hb); clear HB; have HO176 := n0_; have HB := n1_; clear n0_ n1_; (try clear hb); (try clear hb2); (try clear hk); (try clear hi); (try clear ho0)))
    go_ret2
    exact ⟨_, by first | rfl | (simp [errW_none, errW_some] <;> rfl) | (simp [*, errW_none, errW_some] <;> rfl), by (with_reducible repeat (first | apply Kd.Q_alloc | apply Kd.Q_drewN | apply Kd.Q_drew)); exact HO176.out, by repeat (first | (with_reducible first | exact HB.out | apply below_alloc | apply pw_below_drewN | apply below_drew1) | exact HB.out)⟩
   ·
    rw [if_neg c7] at H
    have c7b0 : (a1 == 18) = false := beq_eq_false_iff_ne.mpr c7
    have c7b1 : (a1 != 18) = true := bne_iff_ne.mpr c7
    replace H := Option.bind_eq_some_iff.mp H
    obtain ⟨⟨t177, t178⟩, A100, H⟩ := H
    replace H : (if t178 = 0 then (apply_Fix.j0 k l0 a1 t171 t178 t177 (t171 == 0)) else (apply_Fix.j0 k l0 a1 t171 t178 t177 true)) = some (r1, r2) := H
    have A10 := Aside0.mk A100
    clear A100
    have HC11 := Aside0.mk H
    clear H
    go_enter Try.func11, Try.ntmps11
    go_upto_region 9 with (first | ((with_reducible refine gate_callee (f := 17) rfl ?_); refine goesL_ (some 21) rfl rfl Try.func17 (by kernel_rfl) rfl #[.int .u8 a1] rfl (by (try simp only [List.map_toArray, List.map_cons, List.map_nil]); first | done | rfl | (simp only [List.length_drop, List.length_take]; rfl)) ?_; (with_reducible refine (rela_Field.calls k a1 t171 t172 _ A4.out).mono ?_); rintro e w' ⟨rfl, ⟨nd, rfl⟩⟩; refine ⟨_, rfl, ?_⟩) | ((with_reducible refine gate_callee (f := 19) rfl ?_); refine goesL_ (some 41) rfl rfl Try.func19 (by kernel_rfl) rfl #[.int .u8 a1, .int .i64 a2] rfl (by (try simp only [List.map_toArray, List.map_cons, List.map_nil]); first | done | rfl | (simp only [List.length_drop, List.length_take]; rfl)) ?_; (with_reducible refine (apply_part.calls k a1 a2 t177 t178 _ A10.out).mono ?_); rintro e w' ⟨rfl, ⟨nd, rfl⟩⟩; refine ⟨_, rfl, ?_⟩))
    (try simp only [Act.put, List.setIfInBounds_toArray, List.set_cons_zero, List.set_cons_succ])
    go_cut [49] (fun v49 wc => ∃ (kq : Nat) (x49_10 : Bool), v49 = .bool x49_10 ∧ Aside0 (apply_Fix.j0 kq l0 a1 t171 t178 t177 x49_10 = some (r1, r2)) ∧ Aside0 (kq ≤ k) ∧ Aside0 (Below w.heap.size w wc))
    case first =>
     have H := HC11.out
     clear HC11
     by_cases c12 : t178 = 0
     ·
      rw [if_pos c12] at H
      have c12b0 : (t178 == 0) = true := beq_iff_eq.mpr c12
      have c12b1 : (t178 != 0) = false := bne_eq_false_iff_eq.mpr c12
      clear c12
      (first | rw [c12b0] | (simp only [i64_w, i32_w]; rw [c12b0]) | skip)
      have H' := Aside0.mk H
      clear H
      go_wp2
      go_meet
      case rel => exact ⟨_, ((t171 == 0)), (by first | rfl | (simp; done) | (simp [*]; done)), H', ⟨by first | omega | exact Nat.le_refl _⟩, ⟨by repeat (first | (with_reducible first | exact HB.out | apply below_alloc | apply pw_below_drewN | apply below_drew1) | exact HB.out)⟩⟩
     ·
      rw [if_neg c12] at H
      have c12b0 : (t178 == 0) = false := beq_eq_false_iff_ne.mpr c12
      have c12b1 : (t178 != 0) = true := bne_iff_ne.mpr c12
      (first | rw [c12b0] | (simp only [i64_w, i32_w]; rw [c12b0]) | skip)
      have H' := Aside0.mk H
      clear H
      go_wp2
      go_meet
      case rel => exact ⟨_, (true), (by first | rfl | (simp; done) | (simp [*]; done)), H', ⟨by first | omega | exact Nat.le_refl _⟩, ⟨by repeat (first | (with_reducible first | exact HB.out | apply below_alloc | apply pw_below_drewN | apply below_drew1) | exact HB.out)⟩⟩
    case rest =>
     clear HC11
     try clear c1
     try clear p2
     try clear c5
     try clear c5b0
     try clear c5b1
     try clear c6
     try clear c6b0
     try clear c6b1
     try clear c7
     try clear c7b0
     try clear c7b1
     try clear c11
     try clear c12
     try clear c12b0
     try clear c12b1
     obtain ⟨kq, x49_10, rfl, HA, HJ10, HB⟩ := hcut
     cases kq with
     | zero => exact absurd HA.out (by simp [apply_Fix.j0])
     | succ kj10 =>
      have H := HA.out
      clear HA
      simp only [apply_Fix.j0] at H
      by_cases c13 : x49_10 = true
      ·
       subst c13
       have H1 : (some (([] : List Int), t178)) = some (r1, r2) := by rw [if_pos rfl] at H; exact H
       clear H
       have H := H1
       clear H1
       simp only [Option.some.injEq, Prod.mk.injEq] at H
       obtain ⟨rfl, rfl⟩ := H
       go_wp2
       go_ret2
       exact ⟨_, by first | rfl | (simp [errW_none, errW_some] <;> rfl) | (simp [*, errW_none, errW_some] <;> rfl), Kd.Q_of_R (by first | exact Kd.R_nil _ _ _ _ _ | exact Kd.N_nil _ _ _ _ _ | exact Kd.V_nil _ _ _ _ _ | exact Kd.Q_nil _ _ _ _ _ | exact Kd.S_nil _ _ _ _ _), by repeat (first | (with_reducible first | exact HB.out | apply below_alloc | apply pw_below_drewN | apply below_drew1) | exact HB.out)⟩
      ·
       replace c13 := Bool.eq_false_iff.mpr c13
       subst c13
       have H1 : ((le_Get.f kj10 l0 0 t171).bind fun bt179 => (if a1 = 1 then (apply_Fix.j1 kj10 a1 t171 t177 (IntKind.u64.wrap (bt179.1)) (a1 == 1)) else (apply_Fix.j1 kj10 a1 t171 t177 (IntKind.u64.wrap (bt179.1)) (a1 == 2)))) = some (r1, r2) := by rw [if_neg (show ¬ (false = true) by decide)] at H; exact H
       clear H
       have H := H1
       clear H1
       replace H := Option.bind_eq_some_iff.mp H
       obtain ⟨⟨t179, t180⟩, A140, H⟩ := H
       replace H : (if a1 = 1 then (apply_Fix.j1 kj10 a1 t171 t177 (IntKind.u64.wrap (t179)) (a1 == 1)) else (apply_Fix.j1 kj10 a1 t171 t177 (IntKind.u64.wrap (t179)) (a1 == 2))) = some (r1, r2) := H
       have A14 := Aside0.mk A140
       clear A140
       have HC15 := Aside0.mk H
       clear H
       go_upto_block 0 with (first | ((with_reducible refine gate_callee (f := 20) rfl ?_); refine goesL_ (some 54) rfl rfl Try.func20 (by kernel_rfl) rfl #[.slice A0 l0.length c0, .int .i64 0, .int .i64 t171] rfl (by (try simp only [List.map_toArray, List.map_cons, List.map_nil]); first | done | rfl | (simp only [List.length_drop, List.length_take]; rfl)) ?_; (with_reducible refine (le_Get.calls kj10 _ _ l0 0 t171 t179 t180 _ ?side1 ?side2 A14.out).mono ?_); (case side1 => repeat (first | exact (Kd.C_below HR0.out HB.out) | (with_reducible refine Kd.C_alloc ?_ _) | (with_reducible refine Kd.C_drewN ?_ _) | (with_reducible refine Kd.C_drew ?_))); (case side2 => exact HC0.out); rintro e w' ⟨rfl, ⟨nd, rfl⟩⟩; refine ⟨_, rfl, ?_⟩))
       (try simp only [Act.put, List.setIfInBounds_toArray, List.set_cons_zero, List.set_cons_succ])
       go_cut [13] (fun v13 wc => ∃ (kq : Nat) (x13_14 : Int), v13 = .int .u64 x13_14 ∧ Aside0 (apply_Fix.j3 kq a1 t171 t177 x13_14 = some (r1, r2)) ∧ Aside0 (kq ≤ kj10) ∧ Aside0 (Below w.heap.size w wc))
       case first =>
        have H := HC15.out
        clear HC15
        have HC16 := Aside0.mk H
        clear H
        go_upto_if 59 with (fail)
        go_cut [59] (fun v59 wc => ∃ (kq : Nat) (x59_15 : Bool), v59 = .bool x59_15 ∧ Aside0 (apply_Fix.j1 kq a1 t171 t177 (IntKind.u64.wrap (t179)) x59_15 = some (r1, r2)) ∧ Aside0 (kq ≤ kj10) ∧ Aside0 (Below w.heap.size w wc))
        case first =>
         have H := HC16.out
         clear HC16
         by_cases c17 : a1 = 1
         ·
          rw [if_pos c17] at H
          have c17b0 : (a1 == 1) = true := beq_iff_eq.mpr c17
          have c17b1 : (a1 != 1) = false := bne_eq_false_iff_eq.mpr c17
          clear c17
          (first | rw [c17b0] | (simp only [i64_w, i32_w]; rw [c17b0]) | skip)
          have H' := Aside0.mk H
          clear H
          go_wp2
          go_meet
          case rel => exact ⟨_, ((a1 == 1)), (by first | rfl | (simp; done) | (simp [*]; done)), H', ⟨by have := HJ10.out; first | omega | exact Nat.le_refl _⟩, ⟨by repeat (first | (with_reducible first | exact HB.out | apply below_alloc | apply pw_below_drewN | apply below_drew1) | exact HB.out)⟩⟩
         ·
          rw [if_neg c17] at H
          have c17b0 : (a1 == 1) = false := beq_eq_false_iff_ne.mpr c17
          have c17b1 : (a1 != 1) = true := bne_iff_ne.mpr c17
          (first | rw [c17b0] | (simp only [i64_w, i32_w]; rw [c17b0]) | skip)
          have H' := Aside0.mk H
          clear H
          go_wp2
          go_meet
          case rel => exact ⟨_, ((a1 == 2)), (by first | rfl | (simp; done) | (simp [*]; done)), H', ⟨by have := HJ10.out; first | omega | exact Nat.le_refl _⟩, ⟨by repeat (first | (with_reducible first | exact HB.out | apply below_alloc | apply pw_below_drewN | apply below_drew1) | exact HB.out)⟩⟩
        case rest =>
         clear HC16
         try clear c1
         try clear c2
         try clear p2
         try clear c5
         try clear c5b0
         try clear c5b1
         try clear c6
         try clear c6b0
         try clear c6b1
         try clear c7
         try clear c7b0
         try clear c7b1
         try clear c11
         try clear c12
         try clear c12b0
         try clear c12b1
         try clear c13
         try clear c17
         try clear c17b0
         try clear c17b1
         try clear p2
         obtain ⟨kq, x59_15, rfl, HA, HJ15, HB⟩ := hcut
         cases kq with
         | zero => exact absurd HA.out (by simp [apply_Fix.j1])
         | succ kj15 =>
          have H := HA.out
          clear HA
          simp only [apply_Fix.j1] at H
          by_cases c18 : x59_15 = true
          ·
           subst c18
           have H1 : (apply_Fix.j3 kj15 a1 t171 t177 (IntKind.u64.wrap (t177))) = some (r1, r2) := by rw [if_pos rfl] at H; exact H
           clear H
           have H := H1
           clear H1
           have H' := Aside0.mk H
           clear H
           go_wp2
           go_meet
           case rel => exact ⟨_, (IntKind.u64.wrap (t177)), (by first | rfl | (simp; done) | (simp [*]; done)), H', ⟨by have := HJ10.out; have := HJ15.out; first | omega | exact Nat.le_refl _⟩, ⟨by repeat (first | (with_reducible first | exact HB.out | apply below_alloc | apply pw_below_drewN | apply below_drew1) | exact HB.out)⟩⟩
          ·
           replace c18 := Bool.eq_false_iff.mpr c18
           subst c18
           have H1 : (if a1 ≥ 33 then (apply_Fix.j2 kj15 a1 t171 t177 (IntKind.u64.wrap (t179)) (decide (a1 ≤ 36))) else (apply_Fix.j2 kj15 a1 t171 t177 (IntKind.u64.wrap (t179)) false)) = some (r1, r2) := by rw [if_neg (show ¬ (false = true) by decide)] at H; exact H
           clear H
           have H := H1
           clear H1
           have HC19 := Aside0.mk H
           clear H
           go_upto_region 16 with (fail)
           go_cut [66] (fun v66 wc => ∃ (kq : Nat) (x66_18 : Bool), v66 = .bool x66_18 ∧ Aside0 (apply_Fix.j2 kq a1 t171 t177 (IntKind.u64.wrap (t179)) x66_18 = some (r1, r2)) ∧ Aside0 (kq ≤ kj15) ∧ Aside0 (Below w.heap.size w wc))
           case first =>
            have H := HC19.out
            clear HC19
            by_cases c20 : a1 ≥ 33
            ·
             rw [if_pos c20] at H
             have c20b0 : decide (33 ≤ a1) = true := decide_eq_true c20
             clear c20
             (first | rw [c20b0] | (simp only [i64_w, i32_w]; rw [c20b0]) | skip)
             have H' := Aside0.mk H
             clear H
             go_wp2
             go_meet
             case rel => exact ⟨_, (decide (a1 ≤ 36)), (by first | rfl | (simp; done) | (simp [*]; done)), H', ⟨by have := HJ10.out; have := HJ15.out; first | omega | exact Nat.le_refl _⟩, ⟨by repeat (first | (with_reducible first | exact HB.out | apply below_alloc | apply pw_below_drewN | apply below_drew1) | exact HB.out)⟩⟩
            ·
             rw [if_neg c20] at H
             have c20b0 : decide (33 ≤ a1) = false := decide_eq_false c20
             clear c20
             (first | rw [c20b0] | (simp only [i64_w, i32_w]; rw [c20b0]) | skip)
             have H' := Aside0.mk H
             clear H
             go_wp2
             go_meet
             case rel => exact ⟨_, (false), (by first | rfl | (simp; done) | (simp [*]; done)), H', ⟨by have := HJ10.out; have := HJ15.out; first | omega | exact Nat.le_refl _⟩, ⟨by repeat (first | (with_reducible first | exact HB.out | apply below_alloc | apply pw_below_drewN | apply below_drew1) | exact HB.out)⟩⟩
           case rest =>
            clear HC19
            try clear c1
            try clear c2
            try clear p2
            try clear c5
            try clear c5b0
            try clear c5b1
            try clear c6
            try clear c6b0
            try clear c6b1
            try clear c7
            try clear c7b0
            try clear c7b1
            try clear c11
            try clear c12
            try clear c12b0
            try clear c12b1
            try clear c13
            try clear c17
            try clear c17b0
            try clear c17b1
            try clear c18
            try clear c19
            try clear c20
            try clear c20b0
            try clear p2
            obtain ⟨kq, x66_18, rfl, HA, HJ18, HB⟩ := hcut
            cases kq with
            | zero => exact absurd HA.out (by simp [apply_Fix.j2])
            | succ kj18 =>
             have H := HA.out
             clear HA
             simp only [apply_Fix.j2] at H
             by_cases c21 : x66_18 = true
             ·
              subst c21
              have H1 : (apply_Fix.j3 kj18 a1 t171 t177 (IntKind.u64.wrap ((IntKind.u64.wrap (t179)) + (IntKind.u64.wrap (t177))))) = some (r1, r2) := by rw [if_pos rfl] at H; exact H
              clear H
              have H := H1
              clear H1
              have H' := Aside0.mk H
              clear H
              go_wp2
              go_meet
              case rel => exact ⟨_, (IntKind.u64.wrap ((IntKind.u64.wrap (t179)) + (IntKind.u64.wrap (t177)))), (by first | rfl | (simp; done) | (simp [*]; done)), H', ⟨by have := HJ10.out; have := HJ15.out; have := HJ18.out; first | omega | exact Nat.le_refl _⟩, ⟨by repeat (first | (with_reducible first | exact HB.out | apply below_alloc | apply pw_below_drewN | apply below_drew1) | exact HB.out)⟩⟩
             ·
              replace c21 := Bool.eq_false_iff.mpr c21
              subst c21
              have H1 : (if a1 ≥ 37 then (if a1 ≤ 40 then (apply_Fix.j3 kj18 a1 t171 t177 (IntKind.u64.wrap ((IntKind.u64.wrap (t179)) - (IntKind.u64.wrap (t177))))) else (apply_Fix.j3 kj18 a1 t171 t177 (IntKind.u64.wrap (t179)))) else (apply_Fix.j3 kj18 a1 t171 t177 (IntKind.u64.wrap (t179)))) = some (r1, r2) := by rw [if_neg (show ¬ (false = true) by decide)] at H; exact H
              clear H
              have H := H1
              clear H1
              by_cases c22 : a1 ≥ 37
              ·
               rw [if_pos c22] at H
               have c22b0 : decide (37 ≤ a1) = true := decide_eq_true c22
               clear c22
               by_cases c23 : a1 ≤ 40
               ·
                rw [if_pos c23] at H
                have c23b0 : decide (a1 ≤ 40) = true := decide_eq_true c23
                clear c23
                have H' := Aside0.mk H
                clear H
                go_wp2
                go_meet
                case rel => exact ⟨_, (IntKind.u64.wrap ((IntKind.u64.wrap (t179)) - (IntKind.u64.wrap (t177)))), (by first | rfl | (simp; done) | (simp [*]; done)), H', ⟨by have := HJ10.out; have := HJ15.out; have := HJ18.out; first | omega | exact Nat.le_refl _⟩, ⟨by repeat (first | (with_reducible first | exact HB.out | apply below_alloc | apply pw_below_drewN | apply below_drew1) | exact HB.out)⟩⟩
               ·
                rw [if_neg c23] at H
                have c23b0 : decide (a1 ≤ 40) = false := decide_eq_false c23
                clear c23
                have H' := Aside0.mk H
                clear H
                go_wp2
                go_meet
                case rel => exact ⟨_, ((IntKind.u64.wrap (t179))), (by first | rfl | (simp; done) | (simp [*]; done)), H', ⟨by have := HJ10.out; have := HJ15.out; have := HJ18.out; first | omega | exact Nat.le_refl _⟩, ⟨by repeat (first | (with_reducible first | exact HB.out | apply below_alloc | apply pw_below_drewN | apply below_drew1) | exact HB.out)⟩⟩
              ·
               rw [if_neg c22] at H
               have c22b0 : decide (37 ≤ a1) = false := decide_eq_false c22
               clear c22
               have H' := Aside0.mk H
               clear H
               go_wp2
               go_meet
               case rel => exact ⟨_, ((IntKind.u64.wrap (t179))), (by first | rfl | (simp; done) | (simp [*]; done)), H', ⟨by have := HJ10.out; have := HJ15.out; have := HJ18.out; first | omega | exact Nat.le_refl _⟩, ⟨by repeat (first | (with_reducible first | exact HB.out | apply below_alloc | apply pw_below_drewN | apply below_drew1) | exact HB.out)⟩⟩
       case rest =>
        clear HC15
        try clear c1
        try clear c2
        try clear p2
        try clear c5
        try clear c5b0
        try clear c5b1
        try clear c6
        try clear c6b0
        try clear c6b1
        try clear c7
        try clear c7b0
        try clear c7b1
        try clear c11
        try clear c12
        try clear c12b0
        try clear c12b1
        try clear c13
        try clear c17
        try clear c17b0
        try clear c17b1
        try clear c18
        try clear c19
        try clear c20
        try clear c20b0
        try clear c21
        try clear c22
        try clear c22b0
        try clear c23
        try clear c23b0
        try clear p2
        obtain ⟨kq, x13_14, rfl, HA, HJ14, HB⟩ := hcut
        cases kq with
        | zero => exact absurd HA.out (by simp [apply_Fix.j3])
        | succ kj14 =>
         have H := HA.out
         clear HA
         simp only [apply_Fix.j3] at H
         replace H := Option.bind_eq_some_iff.mp H
         obtain ⟨t181, A240, H⟩ := H
         replace H : (apply_Fix.l0 kj14 t171 t177 x13_14 t181 (t181.length : Int) 0) = some (r1, r2) := H
         have A24 := Aside0.mk A240
         clear A240
         have H' := Aside0.mk H
         clear H
         go_wp2_with (first | ((with_reducible refine gate_callee (f := 21) rfl ?_); refine goesL_ (some 89) rfl rfl Try.func21 (by kernel_rfl) rfl #[.int .u8 a1] rfl (by (try simp only [List.map_toArray, List.map_cons, List.map_nil]); first | done | rfl | (simp only [List.length_drop, List.length_take]; rfl)) ?_; (with_reducible refine (apply_rows.calls kj14 a1 t181 _ A24.out).mono ?_); rintro e w25 ⟨v182, rfl, ho0, hb⟩; refine ⟨_, rfl, ?_⟩; have n0_ := Aside0.mk (Kd.R_lower ho0 (below_size (by repeat (first | (with_reducible first | exact HB.out | apply below_alloc | apply pw_below_drewN | apply below_drew1) | exact HB.out)))); have n1_ := Aside0.mk (below_step (by repeat (first | (with_reducible first | exact HB.out | apply below_alloc | apply pw_below_drewN | apply below_drew1) | exact HB.out)) hb); clear HB; have HO183 := n0_; have HB := n1_; clear n0_ n1_; (try clear hb); (try clear hb2); (try clear hk); (try clear hi); (try clear ho0); obtain ⟨Ao26, co26, eo26⟩ := Kd.R_slice HO183.out; subst eo26))
         go_loopg [13, 91] kj14 (fun kq v13 v91 w' => ∃ (x13_3 : Int) (x91_3 : Int), v13 = .int .u64 x13_3 ∧ v91 = .int .i64 x91_3 ∧ Aside0 (apply_Fix.l0 kq t171 t177 x13_3 t181 (t181.length : Int) x91_3 = some (r1, r2)) ∧ Aside0 (kq ≤ kj14) ∧ Aside0 (Kd.R k48 48 w' w.heap.size (fun _ => True) (.slice Ao26 t181.length co26) t181) ∧ Aside0 (Below w.heap.size w w'))
         case atStart => exact ⟨(x13_14), (0), (by first | rfl | (simp; done) | (simp [*]; done)), (by first | rfl | (simp; done) | (simp [*]; done)), H', ⟨Nat.le_refl _⟩, ⟨by (with_reducible repeat (first | apply Kd.R_alloc | apply Kd.R_drewN | apply Kd.R_drew)); exact HO183.out⟩, ⟨by repeat (first | (with_reducible first | exact HB.out | apply below_alloc | apply pw_below_drewN | apply below_drew1) | exact HB.out)⟩⟩
         case round =>
          clear H'
          try clear c1
          try clear c2
          try clear p2
          try clear c5
          try clear c5b0
          try clear c5b1
          try clear c6
          try clear c6b0
          try clear c6b1
          try clear c7
          try clear c7b0
          try clear c7b1
          try clear c11
          try clear c12
          try clear c12b0
          try clear c12b1
          try clear c13
          try clear c17
          try clear c17b0
          try clear c17b1
          try clear c18
          try clear c19
          try clear c20
          try clear c20b0
          try clear c21
          try clear c22
          try clear c22b0
          try clear c23
          try clear c23b0
          try clear p2
          obtain ⟨x13_3, x91_3, rfl, rfl, HA, HK3, HO_89, HB⟩ := hrel
          cases gk with
          | zero => exact absurd HA.out (by simp [apply_Fix.l0])
          | succ k3 =>
           have H := HA.out
           clear HA
           simp only [apply_Fix.l0] at H
           by_cases c27 : x91_3 < (t181.length : Int)
           ·
            rw [if_pos c27] at H
            have c27b0 : decide (x91_3 < (t181.length : Int)) = true := decide_eq_true c27
            clear c27
            by_cases c28 : 0 ≤ x91_3
            ·
             rw [if_pos c28] at H
             have c28b0 : decide (0 ≤ x91_3) = true := decide_eq_true c28
             clear c28
             by_cases c29 : x91_3 < (t181.length : Int)
             ·
              rw [if_pos c29] at H
              have c29b0 : decide (x91_3 < (t181.length : Int)) = true := decide_eq_true c29
              clear c29
              by_cases c30 : 0 ≤ ((rd_T48 t181 x91_3).f2)
              ·
               rw [if_pos c30] at H
               have c30b0 := eq_true c30
               have c30b1 : decide (0 ≤ ((rd_T48 t181 x91_3).f2)) = true := decide_eq_true c30
               clear c30
               obtain ⟨ji31, hji31⟩ : ∃ j_ : Int, (shl .u64 1 ((rd_T48 t181 x91_3).f2)) = j_ := ⟨_, rfl⟩
               replace H : (if 0 ≤ ((rd_T48 t181 x91_3).f1) then (if 0 ≤ ((rd_T48 t181 x91_3).f0) then (apply_Fix.l0 k3 t171 t177 (Go.bits .or .u64 (Go.bits .andNot .u64 x13_3 (shl .u64 (IntKind.u64.wrap ((ji31) - 1)) ((rd_T48 t181 x91_3).f1))) (shl .u64 (Go.bits .and .u64 (shr .u64 (IntKind.u64.wrap (t177)) ((rd_T48 t181 x91_3).f0)) (IntKind.u64.wrap ((ji31) - 1))) ((rd_T48 t181 x91_3).f1))) t181 (t181.length : Int) (wrap64 (x91_3 + 1))) else (none)) else (none)) = some (r1, r2) := by first | (rw [hji31] at H; exact H) | (simp only [hji31] at H ⊢; exact H)
               have hji31_ : (IntKind.u64.wrap (1 * 2 ^ min ((rd_T48 t181 x91_3).f2).toNat 64)) = ji31 := hji31
               have hji31z : ((rd_T48 t181 x91_3).f2) ≤ 64 → (IntKind.u64.wrap (1 * 2 ^ ((rd_T48 t181 x91_3).f2).toNat)) = ji31 := shl_small hji31
               have hji31u : (IntKind.u64.wrap (2 ^ min ((rd_T48 t181 x91_3).f2).toNat 64)) = ji31 := by have h_ := hji31_; rw [Int.one_mul] at h_; exact h_
               have hji31v : ((rd_T48 t181 x91_3).f2) ≤ 64 → (IntKind.u64.wrap (2 ^ ((rd_T48 t181 x91_3).f2).toNat)) = ji31 := fun hle_ => by have h_ := hji31z hle_; rw [Int.one_mul] at h_; exact h_
               by_cases c32 : 0 ≤ ((rd_T48 t181 x91_3).f1)
               ·
                rw [if_pos c32] at H
                have c32b0 := eq_true c32
                have c32b1 : decide (0 ≤ ((rd_T48 t181 x91_3).f1)) = true := decide_eq_true c32
                clear c32
                obtain ⟨ji33, hji33⟩ : ∃ j_ : Int, (shl .u64 (IntKind.u64.wrap ((ji31) - 1)) ((rd_T48 t181 x91_3).f1)) = j_ := ⟨_, rfl⟩
                replace H : (if 0 ≤ ((rd_T48 t181 x91_3).f0) then (apply_Fix.l0 k3 t171 t177 (Go.bits .or .u64 (Go.bits .andNot .u64 x13_3 (ji33)) (shl .u64 (Go.bits .and .u64 (shr .u64 (IntKind.u64.wrap (t177)) ((rd_T48 t181 x91_3).f0)) (IntKind.u64.wrap ((ji31) - 1))) ((rd_T48 t181 x91_3).f1))) t181 (t181.length : Int) (wrap64 (x91_3 + 1))) else (none)) = some (r1, r2) := by first | (rw [hji33] at H; exact H) | (simp only [hji33] at H ⊢; exact H)
                have hji33_ : (IntKind.u64.wrap ((IntKind.u64.wrap ((ji31) - 1)) * 2 ^ min ((rd_T48 t181 x91_3).f1).toNat 64)) = ji33 := hji33
                have hji33z : ((rd_T48 t181 x91_3).f1) ≤ 64 → (IntKind.u64.wrap ((IntKind.u64.wrap ((ji31) - 1)) * 2 ^ ((rd_T48 t181 x91_3).f1).toNat)) = ji33 := shl_small hji33
                by_cases c34 : 0 ≤ ((rd_T48 t181 x91_3).f0)
                ·
                 rw [if_pos c34] at H
                 have c34b0 := eq_true c34
                 have c34b1 : decide (0 ≤ ((rd_T48 t181 x91_3).f0)) = true := decide_eq_true c34
                 clear c34
                 obtain ⟨ji35, hji35⟩ : ∃ j_ : Int, (shr .u64 (IntKind.u64.wrap (t177)) ((rd_T48 t181 x91_3).f0)) = j_ := ⟨_, rfl⟩
                 replace H : (apply_Fix.l0 k3 t171 t177 (Go.bits .or .u64 (Go.bits .andNot .u64 x13_3 (ji33)) (shl .u64 (Go.bits .and .u64 (ji35) (IntKind.u64.wrap ((ji31) - 1))) ((rd_T48 t181 x91_3).f1))) t181 (t181.length : Int) (wrap64 (x91_3 + 1))) = some (r1, r2) := by first | (rw [hji35] at H; exact H) | (simp only [hji35] at H ⊢; exact H)
                 have hji35_ : ((IntKind.u64.wrap (t177)) / 2 ^ min ((rd_T48 t181 x91_3).f0).toNat 64) = ji35 := hji35
                 have hji35z : ((rd_T48 t181 x91_3).f0) ≤ 64 → ((IntKind.u64.wrap (t177)) / 2 ^ ((rd_T48 t181 x91_3).f0).toNat) = ji35 := shr_small hji35
                 have c36b0 := eq_true (of_decide_eq_true (by first | (with_reducible assumption) | assumption) : 0 ≤ ((rd_T48 t181 x91_3).f1))
                 obtain ⟨ji37, hji37⟩ : ∃ j_ : Int, (shl .u64 (Go.bits .and .u64 (ji35) (IntKind.u64.wrap ((ji31) - 1))) ((rd_T48 t181 x91_3).f1)) = j_ := ⟨_, rfl⟩
                 replace H : (apply_Fix.l0 k3 t171 t177 (Go.bits .or .u64 (Go.bits .andNot .u64 x13_3 (ji33)) (ji37)) t181 (t181.length : Int) (wrap64 (x91_3 + 1))) = some (r1, r2) := by first | (rw [hji37] at H; exact H) | (simp only [hji37] at H ⊢; exact H)
                 have hji37_ : (IntKind.u64.wrap ((Go.bits .and .u64 (ji35) (IntKind.u64.wrap ((ji31) - 1))) * 2 ^ min ((rd_T48 t181 x91_3).f1).toNat 64)) = ji37 := hji37
                 have hji37z : ((rd_T48 t181 x91_3).f1) ≤ 64 → (IntKind.u64.wrap ((Go.bits .and .u64 (ji35) (IntKind.u64.wrap ((ji31) - 1))) * 2 ^ ((rd_T48 t181 x91_3).f1).toNat)) = ji37 := shl_small hji37
                 have H' := Aside0.mk H
                 clear H
                 have p184 : 0 ≤ (x91_3 : Int) := of_decide_eq_true (by first | (with_reducible assumption) | assumption)
                 have q184 : x91_3 < (t181.length : Int) := of_decide_eq_true (by first | (with_reducible assumption) | assumption)
                 obtain ⟨ad184, e184, hx184_0, hx184_1, hx184_2⟩ := at_T48 (Kd.R_reads' HO_89.out).2.2 x91_3 p184 q184
                 cases e184
                 replace p184 := eq_true p184
                 replace q184 := eq_true q184
                 go_wp2_with (first | ((with_reducible refine gate_dst (N := 15) rfl ?_); refine box_event ?hg (N := 15) ?hd (cs := #[.int .u64 0, .int .u64 0, .int .u64 0]) (t := 48) ?hr ?_; (case hd => rfl); (case hg => rfl); (case hr => first | (go_simp; done) | (go_simp; rfl)); intro gb185 hg w38 hbox hb; have n0_ := Aside0.mk (Kd.R_below (Kd.R_elderB (by (with_reducible repeat (first | apply Kd.R_alloc | apply Kd.R_drewN | apply Kd.R_drew)); exact HO_89.out) gb185 (Nat.le_of_eq hg.symm)) hb); have n1_ := Aside0.mk (below_step (by repeat (first | (with_reducible first | exact HB.out | apply below_alloc | apply pw_below_drewN | apply below_drew1) | exact HB.out)) hb); have n2_ := Aside0.mk (hbox); have n3_ := Aside0.mk ((by rw [hg]; exact (below_size (by repeat (first | (with_reducible first | exact HB.out | apply below_alloc | apply pw_below_drewN | apply below_drew1) | exact HB.out))) : w.heap.size ≤ gb185)); have n4_ := Aside0.mk ((by rw [hg]; exact (below_size (by repeat (first | (with_reducible first | exact HB.out | apply below_alloc | apply pw_below_drewN | apply below_drew1) | exact HB.out))) : w.heap.size ≤ gb185)); clear HO_89; clear HB; have HO_89 := n0_; have HB := n1_; have BK185 := n2_; have GW185 := n3_; have GE185 := n4_; clear n0_ n1_ n2_ n3_ n4_; clear hb hbox hg; have hcz39_0 : w38.cell? ⟨gb185, 0, none⟩ = some (.int .u64 0) := (blk_cell BK185.out 0).trans rfl; have hcz39_1 : w38.cell? ⟨gb185, 1, none⟩ = some (.int .u64 0) := (blk_cell BK185.out 1).trans rfl; have hcz39_2 : w38.cell? ⟨gb185, 2, none⟩ = some (.int .u64 0) := (blk_cell BK185.out 2).trans rfl; have hfz39_0 := blk_frozen BK185.out 0; have hfz39_1 := blk_frozen BK185.out 1; have hfz39_2 := blk_frozen BK185.out 2))
                 go_roundg k3
                 case measure => have := HJ10.out; have := HJ14.out; have := HK3.out; omega
                 case rel => exact ⟨(Go.bits .or .u64 (Go.bits .andNot .u64 x13_3 (ji33)) (ji37)), (wrap64 (x91_3 + 1)), (by first | rfl | (simp; done) | (simp only [← hji33, ← hji37] <;> (first | rfl | simp)) | (simp [*]; done)), (by first | rfl | (simp; done) | (simp [*]; done)), H', ⟨by have := HJ10.out; have := HJ14.out; have := HK3.out; omega⟩, ⟨by (with_reducible repeat (first | apply Kd.R_alloc | apply Kd.R_drewN | apply Kd.R_drew)); exact Kd.R_mono (Kd.R_far (p := ⟨gb185, 2, none⟩) (Kd.R_far (p := ⟨gb185, 1, none⟩) (Kd.R_far (p := ⟨gb185, 0, none⟩) (Kd.R_mono HO_89.out (fun k_ hk => (⟨hk, hk.2⟩ : _ ∧ k_ ≠ gb185))) (fun _ hk => hk.2) (.int .u64 ((rd_T48 t181 x91_3).f0))) (fun _ hk => hk.2) (.int .u64 ((rd_T48 t181 x91_3).f1))) (fun _ hk => hk.2) (.int .u64 ((rd_T48 t181 x91_3).f2))) (fun _ hk => trivial)⟩, ⟨by repeat (first | (with_reducible first | exact HB.out | apply below_alloc | apply pw_below_drewN | apply below_drew1 | refine below_set ?_ GE185.out) | exact HB.out)⟩⟩
                ·
                 rw [if_neg c34] at H
                 exact absurd H (by simp)
               ·
                rw [if_neg c32] at H
                exact absurd H (by simp)
              ·
               rw [if_neg c30] at H
               exact absurd H (by simp)
             ·
              rw [if_neg c29] at H
              exact absurd H (by simp)
            ·
             rw [if_neg c28] at H
             exact absurd H (by simp)
           ·
            rw [if_neg c27] at H
            have c27b0 : decide (x91_3 < (t181.length : Int)) = false := decide_eq_false c27
            clear c27
            replace H := Option.bind_eq_some_iff.mp H
            obtain ⟨⟨t186, t187⟩, A400, H⟩ := H
            replace H : (if 0 ≤ t171 then (if t171 ≤ (t186.length : Int) then (some ((t186.take (t171 : Int).toNat), 0)) else (none)) else (none)) = some (r1, r2) := H
            have A40 := Aside0.mk A400
            clear A400
            by_cases c41 : 0 ≤ t171
            ·
             rw [if_pos c41] at H
             have c41b0 := eq_true c41
             have c41b1 : decide (0 ≤ t171) = true := decide_eq_true c41
             clear c41
             by_cases c42 : t171 ≤ (t186.length : Int)
             ·
              rw [if_pos c42] at H
              have c42b0 := eq_true c42
              have c42b1 : decide (t171 ≤ (t186.length : Int)) = true := decide_eq_true c42
              clear c42
              obtain ⟨y190, hy190⟩ : ∃ y_ : List Int, y_ = (t186.take (t171 : Int).toNat) := ⟨_, rfl⟩
              replace H : (some (y190, 0)) = some (r1, r2) := by first | (rw [hy190]; with_reducible exact H) | (have H2_ := (Option.bind_some _ _).symm.trans H; rw [hy190]; with_reducible exact H2_) | (have H2_ := (Option.bind_some _ _).symm.trans H; with_reducible exact H2_) | with_reducible exact H | (rw [hy190]; exact H) | exact H
              have Ny190 := Aside0.mk hy190
              clear hy190
              simp only [Option.some.injEq, Prod.mk.injEq] at H
              obtain ⟨rfl, rfl⟩ := H
              go_wp2_with (first | ((with_reducible refine gate_callee (f := 22) rfl ?_); refine goesL_ (some 120) rfl rfl Try.func22 (by kernel_rfl) rfl #[.int .i64 (wrap64 (x13_3)), .int .i64 8] rfl (by (try simp only [List.map_toArray, List.map_cons, List.map_nil]); first | done | rfl | (simp only [List.length_drop, List.length_take]; rfl)) ?_; (with_reducible refine (le_Put.calls k3 (wrap64 (x13_3)) 8 t186 t187 _ A40.out).mono ?_); rintro e w43 ⟨v188, rfl, ho0, hb⟩; refine ⟨_, rfl, ?_⟩; have n0_ := Aside0.mk (Kd.R_below (by (with_reducible repeat (first | apply Kd.R_alloc | apply Kd.R_drewN | apply Kd.R_drew)); exact HO_89.out) hb); have n1_ := Aside0.mk (Kd.R_lower ho0 (below_size (by repeat (first | (with_reducible first | exact HB.out | apply below_alloc | apply pw_below_drewN | apply below_drew1) | exact HB.out)))); have n2_ := Aside0.mk (below_step (by repeat (first | (with_reducible first | exact HB.out | apply below_alloc | apply pw_below_drewN | apply below_drew1) | exact HB.out)) hb); clear HO_89; clear HB; have HO_89 := n0_; have HO189 := n1_; have HB := n2_; clear n0_ n1_ n2_; (try clear hb); (try clear hb2); (try clear hk); (try clear hi); (try clear ho0); obtain ⟨Ao44, co44, eo44⟩ := Kd.R_slice HO189.out; subst eo44; have q45 : (t171 : Int) ≤ ((t186.length : Int) : Int) := of_decide_eq_true (by first | (with_reducible assumption) | assumption); obtain ⟨i045, hi045, _, hsz45, _⟩ := info_parts info5; have hcut45 := cut_to3 (P := Try.prog) 25 5 .i64 Try.underlying25 hi045 Ao44 t186.length co44 t171 (of_decide_eq_true (by first | (with_reducible assumption) | assumption)) q45 (Kd.R_reads' HO189.out).2.1; have hr45 := Kd.Q_take3 (m := (t171 : Int).toNat) (Kd.Q_of_R HO189.out) (by omega); have hy45 : y190.length = (t171 : Int).toNat := (by rw [Ny190.out, List.length_take]; omega); rw [← Ny190.out] at hr45; rw [← hy45] at hr45 hcut45; clear hy45 hi045 hsz45 HO189; have HO192 := Aside0.mk hr45; clear hr45; replace q45 := eq_true q45))
              go_ret2
              exact ⟨_, by first | rfl | (simp [errW_none, errW_some] <;> rfl) | (simp [*, errW_none, errW_some] <;> rfl), by (with_reducible repeat (first | apply Kd.Q_alloc | apply Kd.Q_drewN | apply Kd.Q_drew)); exact HO192.out, by repeat (first | (with_reducible first | exact HB.out | apply below_alloc | apply pw_below_drewN | apply below_drew1) | exact HB.out)⟩
             ·
              rw [if_neg c42] at H
              exact absurd H (by simp)
            ·
             rw [if_neg c41] at H
             exact absurd H (by simp)
  ·
   rw [if_neg c6] at H
   have c6b0 : ((l0.length : Int) == t171) = false := beq_eq_false_iff_ne.mpr c6
   have c6b1 : ((l0.length : Int) != t171) = true := bne_iff_ne.mpr c6
   simp only [Option.some.injEq, Prod.mk.injEq] at H
   obtain ⟨rfl, rfl⟩ := H
   go_enter Try.func11, Try.ntmps11
   go_wp2_with (first | ((with_reducible refine gate_callee (f := 17) rfl ?_); refine goesL_ (some 21) rfl rfl Try.func17 (by kernel_rfl) rfl #[.int .u8 a1] rfl (by (try simp only [List.map_toArray, List.map_cons, List.map_nil]); first | done | rfl | (simp only [List.length_drop, List.length_take]; rfl)) ?_; (with_reducible refine (rela_Field.calls k a1 t171 t172 _ A4.out).mono ?_); rintro e w' ⟨rfl, ⟨nd, rfl⟩⟩; refine ⟨_, rfl, ?_⟩))
   go_ret2
   exact ⟨_, by first | rfl | (simp [errW_none, errW_some] <;> rfl) | (simp [*, errW_none, errW_some] <;> rfl), Kd.Q_of_R (by first | exact Kd.R_nil _ _ _ _ _ | exact Kd.N_nil _ _ _ _ _ | exact Kd.V_nil _ _ _ _ _ | exact Kd.Q_nil _ _ _ _ _ | exact Kd.S_nil _ _ _ _ _), by repeat (first | (with_reducible first | exact HB.out | apply below_alloc | apply pw_below_drewN | apply below_drew1) | exact HB.out)⟩
 ·
  rw [if_neg c5] at H
  have c5b0 : (t172 == 0) = false := beq_eq_false_iff_ne.mpr c5
  have c5b1 : (t172 != 0) = true := bne_iff_ne.mpr c5
  simp only [Option.some.injEq, Prod.mk.injEq] at H
  obtain ⟨rfl, rfl⟩ := H
  go_enter Try.func11, Try.ntmps11
  go_wp2_with (first | ((with_reducible refine gate_callee (f := 17) rfl ?_); refine goesL_ (some 21) rfl rfl Try.func17 (by kernel_rfl) rfl #[.int .u8 a1] rfl (by (try simp only [List.map_toArray, List.map_cons, List.map_nil]); first | done | rfl | (simp only [List.length_drop, List.length_take]; rfl)) ?_; (with_reducible refine (rela_Field.calls k a1 t171 t172 _ A4.out).mono ?_); rintro e w' ⟨rfl, ⟨nd, rfl⟩⟩; refine ⟨_, rfl, ?_⟩))
  go_ret2
  exact ⟨_, by first | rfl | (simp [errW_none, errW_some] <;> rfl) | (simp [*, errW_none, errW_some] <;> rfl), Kd.Q_of_R (by first | exact Kd.R_nil _ _ _ _ _ | exact Kd.N_nil _ _ _ _ _ | exact Kd.V_nil _ _ _ _ _ | exact Kd.Q_nil _ _ _ _ _ | exact Kd.S_nil _ _ _ _ _), by repeat (first | (with_reducible first | exact HB.out | apply below_alloc | apply pw_below_drewN | apply below_drew1) | exact HB.out)⟩

end Go.Proofs.Ytoljgjnbkejhaaa.P
