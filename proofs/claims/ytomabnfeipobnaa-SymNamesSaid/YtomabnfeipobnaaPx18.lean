-- Written by pext.py, a program of this session, over the kit's print: a function's contract
import Derived.Test.YtomabnfeipobnaaPx0
import Derived.Test.YtomabnfeipobnaaPx8
namespace Go.Proofs.Ytomabnfeipobnaa.P
open Go.RowKit Go.Proofs.YtomabnfeipobnaaW.PrintWords Go.Proofs.YtomabnfeipobnaaW.PrintLast Go.Proofs.YtomabnfeipobnaaW.PrintMore
attribute [local go_sem] max2_int min2_int max_two min_two max_three min_three max_four min_four   -- for this text's walks alone
set_option linter.unusedVariables false
set_option linter.unusedSimpArgs false

/-! ### quoinlaw26_sums: function 48 -/
def quoinlaw26_sums.f (a0 : Int) : Option (Bool) := if a0 ≥ 33 then (some (decide (a0 ≤ 40))) else (some false)
set_option maxHeartbeats 8000000 in
set_option maxRecDepth 100000 in
theorem quoinlaw26_sums.calls (a0 : Int) (r : Bool) (w : World) (h : quoinlaw26_sums.f a0 = some r) :
    Calls Try.prog 48 #[.int .u8 a0] w fun e w' => e = .returned (.bool r) ∧ Drawn0 w w' := by
  have H : (if a0 ≥ 33 then (some (decide (a0 ≤ 40))) else (some false)) = some r := h
  clear h
  by_cases c2 : a0 ≥ 33
  · rw [if_pos c2] at H
    have c2b0 : decide (33 ≤ a0) = true := decide_eq_true c2
    clear c2
    obtain rfl := Option.some.inj H
    go_enter Try.func48, Try.ntmps48
    go_wp2
    go_ret
    exact ⟨by first | rfl | (simp; done) | (simp [*]; done), by repeat (first | exact Drawn0.refl _ | apply Drawn0.step)⟩
  · rw [if_neg c2] at H
    have c2b0 : decide (33 ≤ a0) = false := decide_eq_false c2
    clear c2
    obtain rfl := Option.some.inj H
    go_enter Try.func48, Try.ntmps48
    go_wp2
    go_ret
    exact ⟨by first | rfl | (simp; done) | (simp [*]; done), by repeat (first | exact Drawn0.refl _ | apply Drawn0.step)⟩

-- NOT PRINTED: function 13 (quoinlaw26_ApplyWhole)

-- NOT PRINTED: function 14 (quoinlaw26_ApplyKeeps)

-- NOT PRINTED: function 15 (quoinlaw26_ApplyEven)

/-! ### sym_in: function 87 -/
def sym_in.f (a0 : Int) (a1 : Int) (a2 : Int) : Option (Bool) := if a0 ≥ a1 then (some (decide (a0 ≤ a2))) else (some false)
set_option maxHeartbeats 8000000 in
set_option maxRecDepth 100000 in
theorem sym_in.calls (a0 : Int) (a1 : Int) (a2 : Int) (r : Bool) (w : World) (h : sym_in.f a0 a1 a2 = some r) :
    Calls Try.prog 87 #[.int .i64 a0, .int .i64 a1, .int .i64 a2] w fun e w' => e = .returned (.bool r) ∧ Drawn0 w w' := by
  have H : (if a0 ≥ a1 then (some (decide (a0 ≤ a2))) else (some false)) = some r := h
  clear h
  by_cases c4 : a0 ≥ a1
  · rw [if_pos c4] at H
    have c4b0 : decide (a1 ≤ a0) = true := decide_eq_true c4
    clear c4
    obtain rfl := Option.some.inj H
    go_enter Try.func87, Try.ntmps87
    go_wp2
    go_ret
    exact ⟨by first | rfl | (simp; done) | (simp [*]; done), by repeat (first | exact Drawn0.refl _ | apply Drawn0.step)⟩
  · rw [if_neg c4] at H
    have c4b0 : decide (a1 ≤ a0) = false := decide_eq_false c4
    clear c4
    obtain rfl := Option.some.inj H
    go_enter Try.func87, Try.ntmps87
    go_wp2
    go_ret
    exact ⟨by first | rfl | (simp; done) | (simp [*]; done), by repeat (first | exact Drawn0.refl _ | apply Drawn0.step)⟩

/-! ### sym_named: function 88 -/
mutual
def sym_named.j0 : Nat → ByteArray → Bool → Option (Bool)
  | 0, _, _ => none
  | k + 1, x0, x11 => if x11 = true then (some false) else (sym_named.l0 k x0 (x0.size : Int) 0)
def sym_named.l0 : Nat → ByteArray → Int → Int → Option (Bool)
  | 0, _, _, _ => none
  | k + 1, x0, x13, x14 => if x14 < x13 then (if 0 ≤ x14 then (if x14 < (x0.size : Int) then (if (bt x0 x14) < 33 then (some false) else (if (bt x0 x14) > 126 then (some false) else (sym_named.l0 k x0 x13 (wrap64 (x14 + 1))))) else (none)) else (none)) else (some true)
end
def sym_named.f (k : Nat) (a0 : ByteArray) : Option (Bool) := if a0.toList = ([] : List UInt8) then (sym_named.j0 k a0 true) else (sym_named.j0 k a0 (decide ((a0.size : Int) > 32)))
theorem sym_named.mono_l : ∀ k, (∀ y0 y1, LeO (sym_named.j0 k y0 y1) (sym_named.j0 (k + 1) y0 y1)) ∧ (∀ y0 y1 y2, LeO (sym_named.l0 k y0 y1 y2) (sym_named.l0 (k + 1) y0 y1 y2))
  | 0 => ⟨fun _ _ r h => by simp [sym_named.j0] at h, fun _ _ _ r h => by simp [sym_named.l0] at h⟩
  | k + 1 => by
    obtain ⟨ih0, ih1⟩ := sym_named.mono_l k
    refine ⟨?_, ?_⟩
    · intro y0 y1
      unfold sym_named.j0
      repeat' first
      | (with_reducible exact ih0 _ _)
      | (with_reducible exact ih1 _ _ _)
      | (with_reducible exact LeO.refl _)
      | (with_reducible exact LeO.none _)
      | (with_reducible refine LeO.ite ?_ ?_)
      | (with_reducible refine LeO.bind ?_ (fun _ => ?_))
      | exact ih0 _ _
      | exact ih1 _ _ _
      | exact LeO.none _
      | refine LeO.ite ?_ ?_
      | refine LeO.bind ?_ (fun _ => ?_)
    · intro y0 y1 y2
      unfold sym_named.l0
      repeat' first
      | (with_reducible exact ih0 _ _)
      | (with_reducible exact ih1 _ _ _)
      | (with_reducible exact LeO.refl _)
      | (with_reducible exact LeO.none _)
      | (with_reducible refine LeO.ite ?_ ?_)
      | (with_reducible refine LeO.bind ?_ (fun _ => ?_))
      | exact ih0 _ _
      | exact ih1 _ _ _
      | exact LeO.none _
      | refine LeO.ite ?_ ?_
      | refine LeO.bind ?_ (fun _ => ?_)
theorem sym_named.mono : ∀ a0 k, LeO (sym_named.f k a0) (sym_named.f (k + 1) a0) := by
  intro a0 k
  obtain ⟨ih0, ih1⟩ := sym_named.mono_l k
  unfold sym_named.f
  repeat' first
      | (with_reducible exact ih0 _ _)
      | (with_reducible exact ih1 _ _ _)
      | (with_reducible exact LeO.refl _)
      | (with_reducible exact LeO.none _)
      | (with_reducible refine LeO.ite ?_ ?_)
      | (with_reducible refine LeO.bind ?_ (fun _ => ?_))
      | exact ih0 _ _
      | exact ih1 _ _ _
      | exact LeO.none _
      | refine LeO.ite ?_ ?_
      | refine LeO.bind ?_ (fun _ => ?_)
set_option maxHeartbeats 8000000 in
set_option maxRecDepth 100000 in
theorem sym_named.calls (k : Nat) (a0 : ByteArray) (r : Bool) (w : World) (h : sym_named.f k a0 = some r) :
    Calls Try.prog 88 #[.string a0] w fun e w' => e = .returned (.bool r) ∧ Drawn0 w w' := by
  have H : (if a0.toList = ([] : List UInt8) then (sym_named.j0 k a0 true) else (sym_named.j0 k a0 (decide ((a0.size : Int) > 32)))) = some r := h
  clear h
  have HC2 := Aside0.mk H
  clear H
  go_enter Try.func88, Try.ntmps88
  go_upto_region 1 with (fail)
  go_cut [11] (fun v11 wc => ∃ (kq : Nat) (x11_1 : Bool), v11 = .bool x11_1 ∧ Aside0 (sym_named.j0 kq a0 x11_1 = some r) ∧ Aside0 (kq ≤ k) ∧ Drawn0 w wc)
  case first =>
    have H := HC2.out
    clear HC2
    by_cases c3 : a0.toList = ([] : List UInt8)
    · rw [if_pos c3] at H
      have c3b0 : (a0.toList == ([] : List UInt8)) = true := beq_iff_eq.mpr c3
      have c3b1 : (a0.toList != ([] : List UInt8)) = false := bne_eq_false_iff_eq.mpr c3
      clear c3
      (first | rw [c3b0] | (simp only [i64_w, i32_w]; rw [c3b0]) | skip)
      have H' := Aside0.mk H
      clear H
      go_wp2
      go_meet
      case rel => exact ⟨_, (true), (by first | rfl | (simp; done) | (simp [*]; done)), H', ⟨by first | omega | exact Nat.le_refl _⟩, by repeat (first | exact Drawn0.refl _ | apply Drawn0.step)⟩
    · rw [if_neg c3] at H
      have c3b0 : (a0.toList == ([] : List UInt8)) = false := beq_eq_false_iff_ne.mpr c3
      have c3b1 : (a0.toList != ([] : List UInt8)) = true := bne_iff_ne.mpr c3
      (first | rw [c3b0] | (simp only [i64_w, i32_w]; rw [c3b0]) | skip)
      have H' := Aside0.mk H
      clear H
      go_wp2
      go_meet
      case rel => exact ⟨_, (decide ((a0.size : Int) > 32)), (by first | rfl | (simp; done) | (simp [*]; done)), H', ⟨by first | omega | exact Nat.le_refl _⟩, by repeat (first | exact Drawn0.refl _ | apply Drawn0.step)⟩
  case rest =>
    clear HC2
    try clear p2
    try clear c3
    try clear c3b0
    try clear c3b1
    obtain ⟨kq, x11_1, rfl, HA, HJ1, ⟨mc1, rfl⟩⟩ := hcut
    cases kq with
    | zero => exact absurd HA.out (by simp [sym_named.j0])
    | succ kj1 =>
      have H := HA.out
      clear HA
      simp only [sym_named.j0] at H
      by_cases c4 : x11_1 = true
      · subst c4
        have H1 : (some false) = some r := by rw [if_pos rfl] at H; exact H
        clear H
        have H := H1
        clear H1
        obtain rfl := Option.some.inj H
        go_wp2
        go_ret
        exact ⟨by first | rfl | (simp; done) | (simp [*]; done), by repeat (first | exact Drawn0.refl _ | apply Drawn0.step)⟩
      · replace c4 := Bool.eq_false_iff.mpr c4
        subst c4
        have H1 : (sym_named.l0 kj1 a0 (a0.size : Int) 0) = some r := by rw [if_neg (show ¬ (false = true) by decide)] at H; exact H
        clear H
        have H := H1
        clear H1
        have H' := Aside0.mk H
        clear H
        go_wp2
        go_loopg [14] kj1 (fun kq v14 w' => ∃ (x14_2 : Int), v14 = .int .i64 x14_2 ∧ Aside0 (sym_named.l0 kq a0 (a0.size : Int) x14_2 = some r) ∧ Aside0 (kq ≤ kj1) ∧ Drawn0 w w')
        case atStart => exact ⟨(0), (by first | rfl | (simp; done) | (simp [*]; done)), H', ⟨Nat.le_refl _⟩, by repeat (first | exact Drawn0.refl _ | apply Drawn0.step)⟩
        case round =>
          clear H'
          try clear c1
          try clear p2
          try clear c3
          try clear c3b0
          try clear c3b1
          try clear c4
          try clear p2
          obtain ⟨x14_2, rfl, HA, HK2, ⟨m2, rfl⟩⟩ := hrel
          cases gk with
          | zero => exact absurd HA.out (by simp [sym_named.l0])
          | succ k2 =>
            have H := HA.out
            clear HA
            simp only [sym_named.l0] at H
            by_cases c5 : x14_2 < (a0.size : Int)
            · rw [if_pos c5] at H
              have c5b0 : decide (x14_2 < (a0.size : Int)) = true := decide_eq_true c5
              clear c5
              by_cases c6 : 0 ≤ x14_2
              · rw [if_pos c6] at H
                have c6b0 : decide (0 ≤ x14_2) = true := decide_eq_true c6
                clear c6
                by_cases c7 : x14_2 < (a0.size : Int)
                · rw [if_pos c7] at H
                  have c7b0 : decide (x14_2 < (a0.size : Int)) = true := decide_eq_true c7
                  clear c7
                  by_cases c9 : (bt a0 x14_2) < 33
                  · rw [if_pos c9] at H
                    have c9b0 : decide ((bt a0 x14_2) < 33) = true := decide_eq_true c9
                    clear c9
                    obtain rfl := Option.some.inj H
                    have p8 : 0 ≤ (x14_2 : Int) := of_decide_eq_true (by first | (with_reducible assumption) | assumption)
                    have q8 : x14_2 < (a0.size : Int) := of_decide_eq_true (by first | (with_reducible assumption) | assumption)
                    have hx8 := bt_at a0 x14_2
                    replace p8 := eq_true p8
                    replace q8 := eq_true q8
                    go_wp2
                    go_ret
                    exact ⟨by first | rfl | (simp; done) | (simp [*]; done), by repeat (first | exact Drawn0.refl _ | apply Drawn0.step)⟩
                  · rw [if_neg c9] at H
                    have c9b0 : decide ((bt a0 x14_2) < 33) = false := decide_eq_false c9
                    clear c9
                    by_cases c10 : (bt a0 x14_2) > 126
                    · rw [if_pos c10] at H
                      have c10b0 : decide (126 < (bt a0 x14_2)) = true := decide_eq_true c10
                      clear c10
                      obtain rfl := Option.some.inj H
                      have p8 : 0 ≤ (x14_2 : Int) := of_decide_eq_true (by first | (with_reducible assumption) | assumption)
                      have q8 : x14_2 < (a0.size : Int) := of_decide_eq_true (by first | (with_reducible assumption) | assumption)
                      have hx8 := bt_at a0 x14_2
                      replace p8 := eq_true p8
                      replace q8 := eq_true q8
                      go_wp2
                      go_ret
                      exact ⟨by first | rfl | (simp; done) | (simp [*]; done), by repeat (first | exact Drawn0.refl _ | apply Drawn0.step)⟩
                    · rw [if_neg c10] at H
                      have c10b0 : decide (126 < (bt a0 x14_2)) = false := decide_eq_false c10
                      clear c10
                      have H' := Aside0.mk H
                      clear H
                      have p8 : 0 ≤ (x14_2 : Int) := of_decide_eq_true (by first | (with_reducible assumption) | assumption)
                      have q8 : x14_2 < (a0.size : Int) := of_decide_eq_true (by first | (with_reducible assumption) | assumption)
                      have hx8 := bt_at a0 x14_2
                      replace p8 := eq_true p8
                      replace q8 := eq_true q8
                      go_wp2
                      go_roundg k2
                      case measure => have := HJ1.out; have := HK2.out; omega
                      case rel => exact ⟨(wrap64 (x14_2 + 1)), (by first | rfl | (simp; done) | (simp [*]; done)), H', ⟨by have := HJ1.out; have := HK2.out; omega⟩, by repeat (first | exact Drawn0.refl _ | apply Drawn0.step)⟩
                · rw [if_neg c7] at H
                  exact absurd H (by simp)
              · rw [if_neg c6] at H
                exact absurd H (by simp)
            · rw [if_neg c5] at H
              have c5b0 : decide (x14_2 < (a0.size : Int)) = false := decide_eq_false c5
              clear c5
              obtain rfl := Option.some.inj H
              go_wp2
              go_ret
              exact ⟨by first | rfl | (simp; done) | (simp [*]; done), by repeat (first | exact Drawn0.refl _ | apply Drawn0.step)⟩

/-! ### sym_stands: function 89 -/
def sym_stands.j0 : Nat → Int → Bool → Bool → ByteArray → Int → Bool → Int → Int → Int → Option (Bool)
  | 0, _, _, _, _, _, _, _, _, _ => none
  | k + 1, x1, x5, x10, x584000, x584001, x584002, x584003, x584004, x584005 => if x10 = true then (some false) else (if x584003 = 0 then (if x5 = true then (some false) else (if x584004 = 0 then (some (x584005 == 0)) else (some false))) else (if x584003 = (-1) then ((sym_in.f x584004 (-2147483648) 4294967295).bind fun t584 => (if t584 = true then (some (x584005 == 0)) else (some false))) else (if x584003 = (-2) then ((sect_Check.f k (⟨#[46, 98, 115, 115]⟩ : ByteArray) x584004 ([] : List Int) 0).bind fun t585 => (if t585 = 0 then ((sym_in.f x584005 1 4096).bind fun t586 => (if t586 = true then (some (x584001 == 1)) else (some false))) else (some false))) else ((sym_in.f x584003 1 x1).bind fun t587 => (if t587 = true then ((sym_in.f x584004 0 4096).bind fun t588 => (if t588 = true then ((sym_in.f x584005 0 4096).bind fun t589 => (some t589)) else (some false))) else (some false))))))
def sym_stands.f (k : Nat) (a0_0 : ByteArray) (a0_1 : Int) (a0_2 : Bool) (a0_3 : Int) (a0_4 : Int) (a0_5 : Int) (a1 : Int) : Option (Bool) := if a0_1 > 2 then (sym_stands.j0 k a1 (a0_1 == 0) (decide (a0_1 > 2)) a0_0 a0_1 a0_2 a0_3 a0_4 a0_5) else (if a0_2 = true then (sym_stands.j0 k a1 (a0_1 == 0) (a0_1 == 0) a0_0 a0_1 a0_2 a0_3 a0_4 a0_5) else (sym_stands.j0 k a1 (a0_1 == 0) false a0_0 a0_1 a0_2 a0_3 a0_4 a0_5))
theorem sym_stands.mono_l : ∀ k, (∀ y0 y1 y2 y3 y4 y5 y6 y7 y8, LeO (sym_stands.j0 k y0 y1 y2 y3 y4 y5 y6 y7 y8) (sym_stands.j0 (k + 1) y0 y1 y2 y3 y4 y5 y6 y7 y8))
  | 0 => fun _ _ _ _ _ _ _ _ _ r h => by simp [sym_stands.j0] at h
  | k + 1 => by
    have ih0 := sym_stands.mono_l k
    · intro y0 y1 y2 y3 y4 y5 y6 y7 y8
      unfold sym_stands.j0
      repeat' first
      | (with_reducible exact ih0 _ _ _ _ _ _ _ _ _)
      | (with_reducible exact sect_Check.mono _ _ _ _ _)
      | (with_reducible exact LeO.refl _)
      | (with_reducible exact LeO.none _)
      | (with_reducible refine LeO.ite ?_ ?_)
      | (with_reducible refine LeO.bind ?_ (fun _ => ?_))
      | exact ih0 _ _ _ _ _ _ _ _ _
      | exact sect_Check.mono _ _ _ _ _
      | exact LeO.none _
      | refine LeO.ite ?_ ?_
      | refine LeO.bind ?_ (fun _ => ?_)
theorem sym_stands.mono : ∀ a0 a1 a2 a3 a4 a5 a6 k, LeO (sym_stands.f k a0 a1 a2 a3 a4 a5 a6) (sym_stands.f (k + 1) a0 a1 a2 a3 a4 a5 a6) := by
  intro a0 a1 a2 a3 a4 a5 a6 k
  have ih0 := sym_stands.mono_l k
  unfold sym_stands.f
  repeat' first
      | (with_reducible exact ih0 _ _ _ _ _ _ _ _ _)
      | (with_reducible exact sect_Check.mono _ _ _ _ _)
      | (with_reducible exact LeO.refl _)
      | (with_reducible exact LeO.none _)
      | (with_reducible refine LeO.ite ?_ ?_)
      | (with_reducible refine LeO.bind ?_ (fun _ => ?_))
      | exact ih0 _ _ _ _ _ _ _ _ _
      | exact sect_Check.mono _ _ _ _ _
      | exact LeO.none _
      | refine LeO.ite ?_ ?_
      | refine LeO.bind ?_ (fun _ => ?_)
set_option maxHeartbeats 8000000 in
set_option maxRecDepth 100000 in
theorem sym_stands.calls (k : Nat) (a0_0 : ByteArray) (a0_1 : Int) (a0_2 : Bool) (a0_3 : Int) (a0_4 : Int) (a0_5 : Int) (a1 : Int) (r : Bool) (w : World) (h : sym_stands.f k a0_0 a0_1 a0_2 a0_3 a0_4 a0_5 a1 = some r) :
    Calls Try.prog 89 #[.agg #[.string a0_0, .int .u8 a0_1, .bool a0_2, .int .i64 a0_3, .int .i64 a0_4, .int .i64 a0_5], .int .i64 a1] w fun e w' => e = .returned (.bool r) ∧ Below w.heap.size w w' := by
  have hu64 := Try.underlying64
  have hu36 := Try.underlying36
  have HB := Aside0.mk (Below.refl w.heap.size w)
  have H : (if a0_1 > 2 then (sym_stands.j0 k a1 (a0_1 == 0) (decide (a0_1 > 2)) a0_0 a0_1 a0_2 a0_3 a0_4 a0_5) else (if a0_2 = true then (sym_stands.j0 k a1 (a0_1 == 0) (a0_1 == 0) a0_0 a0_1 a0_2 a0_3 a0_4 a0_5) else (sym_stands.j0 k a1 (a0_1 == 0) false a0_0 a0_1 a0_2 a0_3 a0_4 a0_5))) = some r := h
  clear h
  have HC3 := Aside0.mk H
  clear H
  go_enter Try.func89, Try.ntmps89
  go_upto_if 10 with (first | ((with_reducible refine gate_dst (N := 2) rfl ?_); refine box_event ?hg (N := 2) ?hd (cs := #[.string a0_0, .int .u8 a0_1, .bool a0_2, .int .i64 a0_3, .int .i64 a0_4, .int .i64 a0_5]) (t := 64) ?hr ?_; (case hd => rfl); (case hg => rfl); (case hr => first | (go_simp; done) | (go_simp; rfl)); intro gb583 hg w4 hbox hb; have n0_ := Aside0.mk (below_step (by repeat (first | (with_reducible first | exact HB.out | apply below_alloc | apply pw_below_drewN | apply below_drew1) | exact HB.out)) hb); have n1_ := Aside0.mk (hbox); have n2_ := Aside0.mk ((by rw [hg]; exact (below_size (by repeat (first | (with_reducible first | exact HB.out | apply below_alloc | apply pw_below_drewN | apply below_drew1) | exact HB.out))) : w.heap.size ≤ gb583)); have n3_ := Aside0.mk ((by rw [hg]; exact (below_size (by repeat (first | (with_reducible first | exact HB.out | apply below_alloc | apply pw_below_drewN | apply below_drew1) | exact HB.out))) : w.heap.size ≤ gb583)); clear HB; have HB := n0_; have BK583 := n1_; have GW583 := n2_; have GE583 := n3_; clear n0_ n1_ n2_ n3_; clear hb hbox hg; have hcz5_0 : w4.cell? ⟨gb583, 0, none⟩ = some (.string a0_0) := (blk_cell BK583.out 0).trans rfl; have hcz5_1 : w4.cell? ⟨gb583, 1, none⟩ = some (.int .u8 a0_1) := (blk_cell BK583.out 1).trans rfl; have hcz5_2 : w4.cell? ⟨gb583, 2, none⟩ = some (.bool a0_2) := (blk_cell BK583.out 2).trans rfl; have hcz5_3 : w4.cell? ⟨gb583, 3, none⟩ = some (.int .i64 a0_3) := (blk_cell BK583.out 3).trans rfl; have hcz5_4 : w4.cell? ⟨gb583, 4, none⟩ = some (.int .i64 a0_4) := (blk_cell BK583.out 4).trans rfl; have hcz5_5 : w4.cell? ⟨gb583, 5, none⟩ = some (.int .i64 a0_5) := (blk_cell BK583.out 5).trans rfl; have hfz5_0 := blk_frozen BK583.out 0; have hfz5_1 := blk_frozen BK583.out 1; have hfz5_2 := blk_frozen BK583.out 2; have hfz5_3 := blk_frozen BK583.out 3; have hfz5_4 := blk_frozen BK583.out 4; have hfz5_5 := blk_frozen BK583.out 5))
  (try simp only [Act.put, List.setIfInBounds_toArray, List.set_cons_zero, List.set_cons_succ])
  go_cut [10] (fun v10 wc => ∃ (kq : Nat) (x10_2 : Bool), v10 = .bool x10_2 ∧ Aside0 (sym_stands.j0 kq a1 (a0_1 == 0) x10_2 a0_0 a0_1 a0_2 a0_3 a0_4 a0_5 = some r) ∧ Aside0 (kq ≤ k) ∧ Aside0 (wc.heap[gb583]? = some (.cells #[.string a0_0, .int .u8 a0_1, .bool a0_2, .int .i64 a0_3, .int .i64 a0_4, .int .i64 a0_5] 64 (0, 0))) ∧ Aside0 (Below w.heap.size w wc))
  case first =>
    have H := HC3.out
    clear HC3
    by_cases c6 : a0_1 > 2
    · rw [if_pos c6] at H
      have c6b0 : decide (2 < a0_1) = true := decide_eq_true c6
      clear c6
      (first | rw [c6b0] | (simp only [i64_w, i32_w]; rw [c6b0]) | skip)
      have H' := Aside0.mk H
      clear H
      go_wp2
      go_meet
      case rel => exact ⟨_, (decide (a0_1 > 2)), (by first | rfl | (simp; done) | (simp [*]; done)), H', ⟨by first | omega | exact Nat.le_refl _⟩, ⟨by (with_reducible repeat (first | refine blk_drewN ?_ _ | refine blk_drew ?_ | refine blk_alloc ?_ _)); exact BK583.out⟩, ⟨by repeat (first | (with_reducible first | exact HB.out | apply below_alloc | apply pw_below_drewN | apply below_drew1 | refine below_set ?_ GE583.out) | exact HB.out)⟩⟩
    · rw [if_neg c6] at H
      have c6b0 : decide (2 < a0_1) = false := decide_eq_false c6
      clear c6
      (first | rw [c6b0] | (simp only [i64_w, i32_w]; rw [c6b0]) | skip)
      by_cases c7 : a0_2 = true
      · subst c7
        have H1 : (sym_stands.j0 k a1 (a0_1 == 0) (a0_1 == 0) a0_0 a0_1 true a0_3 a0_4 a0_5) = some r := by rw [if_pos rfl] at H; exact H
        clear H
        have H := H1
        clear H1
        have H' := Aside0.mk H
        clear H
        have hcz8_0 : w4.cell? ⟨gb583, 0, none⟩ = some (.string a0_0) := (blk_cell BK583.out 0).trans rfl
        have hcz8_1 : w4.cell? ⟨gb583, 1, none⟩ = some (.int .u8 a0_1) := (blk_cell BK583.out 1).trans rfl
        have hcz8_2 : w4.cell? ⟨gb583, 2, none⟩ = some (.bool true) := (blk_cell BK583.out 2).trans rfl
        have hcz8_3 : w4.cell? ⟨gb583, 3, none⟩ = some (.int .i64 a0_3) := (blk_cell BK583.out 3).trans rfl
        have hcz8_4 : w4.cell? ⟨gb583, 4, none⟩ = some (.int .i64 a0_4) := (blk_cell BK583.out 4).trans rfl
        have hcz8_5 : w4.cell? ⟨gb583, 5, none⟩ = some (.int .i64 a0_5) := (blk_cell BK583.out 5).trans rfl
        have hfz8_0 := blk_frozen BK583.out 0
        have hfz8_1 := blk_frozen BK583.out 1
        have hfz8_2 := blk_frozen BK583.out 2
        have hfz8_3 := blk_frozen BK583.out 3
        have hfz8_4 := blk_frozen BK583.out 4
        have hfz8_5 := blk_frozen BK583.out 5
        go_wp2
        go_meet
        case rel => exact ⟨_, ((a0_1 == 0)), (by first | rfl | (simp; done) | (simp [*]; done)), H', ⟨by first | omega | exact Nat.le_refl _⟩, ⟨by (with_reducible repeat (first | refine blk_drewN ?_ _ | refine blk_drew ?_ | refine blk_alloc ?_ _)); exact BK583.out⟩, ⟨by repeat (first | (with_reducible first | exact HB.out | apply below_alloc | apply pw_below_drewN | apply below_drew1 | refine below_set ?_ GE583.out) | exact HB.out)⟩⟩
      · replace c7 := Bool.eq_false_iff.mpr c7
        subst c7
        have H1 : (sym_stands.j0 k a1 (a0_1 == 0) false a0_0 a0_1 false a0_3 a0_4 a0_5) = some r := by rw [if_neg (show ¬ (false = true) by decide)] at H; exact H
        clear H
        have H := H1
        clear H1
        have H' := Aside0.mk H
        clear H
        have hcz9_0 : w4.cell? ⟨gb583, 0, none⟩ = some (.string a0_0) := (blk_cell BK583.out 0).trans rfl
        have hcz9_1 : w4.cell? ⟨gb583, 1, none⟩ = some (.int .u8 a0_1) := (blk_cell BK583.out 1).trans rfl
        have hcz9_2 : w4.cell? ⟨gb583, 2, none⟩ = some (.bool false) := (blk_cell BK583.out 2).trans rfl
        have hcz9_3 : w4.cell? ⟨gb583, 3, none⟩ = some (.int .i64 a0_3) := (blk_cell BK583.out 3).trans rfl
        have hcz9_4 : w4.cell? ⟨gb583, 4, none⟩ = some (.int .i64 a0_4) := (blk_cell BK583.out 4).trans rfl
        have hcz9_5 : w4.cell? ⟨gb583, 5, none⟩ = some (.int .i64 a0_5) := (blk_cell BK583.out 5).trans rfl
        have hfz9_0 := blk_frozen BK583.out 0
        have hfz9_1 := blk_frozen BK583.out 1
        have hfz9_2 := blk_frozen BK583.out 2
        have hfz9_3 := blk_frozen BK583.out 3
        have hfz9_4 := blk_frozen BK583.out 4
        have hfz9_5 := blk_frozen BK583.out 5
        go_wp2
        go_meet
        case rel => exact ⟨_, (false), (by first | rfl | (simp; done) | (simp [*]; done)), H', ⟨by first | omega | exact Nat.le_refl _⟩, ⟨by (with_reducible repeat (first | refine blk_drewN ?_ _ | refine blk_drew ?_ | refine blk_alloc ?_ _)); exact BK583.out⟩, ⟨by repeat (first | (with_reducible first | exact HB.out | apply below_alloc | apply pw_below_drewN | apply below_drew1 | refine below_set ?_ GE583.out) | exact HB.out)⟩⟩
  case rest =>
    clear HC3
    try clear p2
    try clear c6
    try clear c6b0
    try clear c7
    try clear c8
    try clear hcz5_0
    try clear hcz5_1
    try clear hcz5_2
    try clear hcz5_3
    try clear hcz5_4
    try clear hcz5_5
    try clear hcz8_0
    try clear hcz8_1
    try clear hcz8_2
    try clear hcz8_3
    try clear hcz8_4
    try clear hcz8_5
    try clear hcz9_0
    try clear hcz9_1
    try clear hcz9_2
    try clear hcz9_3
    try clear hcz9_4
    try clear hcz9_5
    try clear hfz5_0
    try clear hfz5_1
    try clear hfz5_2
    try clear hfz5_3
    try clear hfz5_4
    try clear hfz5_5
    try clear hfz8_0
    try clear hfz8_1
    try clear hfz8_2
    try clear hfz8_3
    try clear hfz8_4
    try clear hfz8_5
    try clear hfz9_0
    try clear hfz9_1
    try clear hfz9_2
    try clear hfz9_3
    try clear hfz9_4
    try clear hfz9_5
    obtain ⟨kq, x10_2, rfl, HA, HJ2, BK583, HB⟩ := hcut
    cases kq with
    | zero => exact absurd HA.out (by simp [sym_stands.j0])
    | succ kj2 =>
      have H := HA.out
      clear HA
      simp only [sym_stands.j0] at H
      by_cases c10 : x10_2 = true
      · subst c10
        have H1 : (some false) = some r := by rw [if_pos rfl] at H; exact H
        clear H
        have H := H1
        clear H1
        obtain rfl := Option.some.inj H
        go_wp2
        go_ret
        exact ⟨by first | rfl | (simp [errW_none, errW_some] <;> rfl) | (simp [*, errW_none, errW_some] <;> rfl), by repeat (first | (with_reducible first | exact HB.out | apply below_alloc | apply pw_below_drewN | apply below_drew1 | refine below_set ?_ GE583.out) | exact HB.out)⟩
      · replace c10 := Bool.eq_false_iff.mpr c10
        subst c10
        have H1 : (if a0_3 = 0 then (if (a0_1 == 0) = true then (some false) else (if a0_4 = 0 then (some (a0_5 == 0)) else (some false))) else (if a0_3 = (-1) then ((sym_in.f a0_4 (-2147483648) 4294967295).bind fun t584 => (if t584 = true then (some (a0_5 == 0)) else (some false))) else (if a0_3 = (-2) then ((sect_Check.f kj2 (⟨#[46, 98, 115, 115]⟩ : ByteArray) a0_4 ([] : List Int) 0).bind fun t585 => (if t585 = 0 then ((sym_in.f a0_5 1 4096).bind fun t586 => (if t586 = true then (some (a0_1 == 1)) else (some false))) else (some false))) else ((sym_in.f a0_3 1 a1).bind fun t587 => (if t587 = true then ((sym_in.f a0_4 0 4096).bind fun t588 => (if t588 = true then ((sym_in.f a0_5 0 4096).bind fun t589 => (some t589)) else (some false))) else (some false)))))) = some r := by rw [if_neg (show ¬ (false = true) by decide)] at H; exact H
        clear H
        have H := H1
        clear H1
        by_cases c11 : a0_3 = 0
        · rw [if_pos c11] at H
          have c11b0 : (a0_3 == 0) = true := beq_iff_eq.mpr c11
          have c11b1 : (a0_3 != 0) = false := bne_eq_false_iff_eq.mpr c11
          clear c11
          by_cases c12 : (a0_1 == 0) = true
          · rw [if_pos c12] at H
            have c12b0 : (a0_1 == 0) = true := c12
            (try (have c12b1 : decide (a0_1 = 0) = true := by simpa using c12))
            (try (have c12b2 : (a0_1 == 0) = true := by simpa using c12))
            clear c12
            obtain rfl := Option.some.inj H
            have hcz13_0 : wc.cell? ⟨gb583, 0, none⟩ = some (.string a0_0) := (blk_cell BK583.out 0).trans rfl
            have hcz13_1 : wc.cell? ⟨gb583, 1, none⟩ = some (.int .u8 a0_1) := (blk_cell BK583.out 1).trans rfl
            have hcz13_2 : wc.cell? ⟨gb583, 2, none⟩ = some (.bool a0_2) := (blk_cell BK583.out 2).trans rfl
            have hcz13_3 : wc.cell? ⟨gb583, 3, none⟩ = some (.int .i64 a0_3) := (blk_cell BK583.out 3).trans rfl
            have hcz13_4 : wc.cell? ⟨gb583, 4, none⟩ = some (.int .i64 a0_4) := (blk_cell BK583.out 4).trans rfl
            have hcz13_5 : wc.cell? ⟨gb583, 5, none⟩ = some (.int .i64 a0_5) := (blk_cell BK583.out 5).trans rfl
            have hfz13_0 := blk_frozen BK583.out 0
            have hfz13_1 := blk_frozen BK583.out 1
            have hfz13_2 := blk_frozen BK583.out 2
            have hfz13_3 := blk_frozen BK583.out 3
            have hfz13_4 := blk_frozen BK583.out 4
            have hfz13_5 := blk_frozen BK583.out 5
            go_wp2
            go_ret
            exact ⟨by first | rfl | (simp [errW_none, errW_some] <;> rfl) | (simp [*, errW_none, errW_some] <;> rfl), by repeat (first | (with_reducible first | exact HB.out | apply below_alloc | apply pw_below_drewN | apply below_drew1 | refine below_set ?_ GE583.out) | exact HB.out)⟩
          · rw [if_neg c12] at H
            have c12b0 : (a0_1 == 0) = false := by simpa using c12
            (try (have c12b1 : decide (a0_1 = 0) = false := by simpa using c12))
            (try (have c12b2 : (a0_1 == 0) = false := by simpa using c12))
            (try (have c12b3 : ¬ (a0_1 = 0) := by simpa using c12))
            clear c12
            by_cases c14 : a0_4 = 0
            · rw [if_pos c14] at H
              have c14b0 : (a0_4 == 0) = true := beq_iff_eq.mpr c14
              have c14b1 : (a0_4 != 0) = false := bne_eq_false_iff_eq.mpr c14
              clear c14
              obtain rfl := Option.some.inj H
              have hcz15_0 : wc.cell? ⟨gb583, 0, none⟩ = some (.string a0_0) := (blk_cell BK583.out 0).trans rfl
              have hcz15_1 : wc.cell? ⟨gb583, 1, none⟩ = some (.int .u8 a0_1) := (blk_cell BK583.out 1).trans rfl
              have hcz15_2 : wc.cell? ⟨gb583, 2, none⟩ = some (.bool a0_2) := (blk_cell BK583.out 2).trans rfl
              have hcz15_3 : wc.cell? ⟨gb583, 3, none⟩ = some (.int .i64 a0_3) := (blk_cell BK583.out 3).trans rfl
              have hcz15_4 : wc.cell? ⟨gb583, 4, none⟩ = some (.int .i64 a0_4) := (blk_cell BK583.out 4).trans rfl
              have hcz15_5 : wc.cell? ⟨gb583, 5, none⟩ = some (.int .i64 a0_5) := (blk_cell BK583.out 5).trans rfl
              have hfz15_0 := blk_frozen BK583.out 0
              have hfz15_1 := blk_frozen BK583.out 1
              have hfz15_2 := blk_frozen BK583.out 2
              have hfz15_3 := blk_frozen BK583.out 3
              have hfz15_4 := blk_frozen BK583.out 4
              have hfz15_5 := blk_frozen BK583.out 5
              go_wp2
              go_ret
              exact ⟨by first | rfl | (simp [errW_none, errW_some] <;> rfl) | (simp [*, errW_none, errW_some] <;> rfl), by repeat (first | (with_reducible first | exact HB.out | apply below_alloc | apply pw_below_drewN | apply below_drew1 | refine below_set ?_ GE583.out) | exact HB.out)⟩
            · rw [if_neg c14] at H
              have c14b0 : (a0_4 == 0) = false := beq_eq_false_iff_ne.mpr c14
              have c14b1 : (a0_4 != 0) = true := bne_iff_ne.mpr c14
              obtain rfl := Option.some.inj H
              have hcz16_0 : wc.cell? ⟨gb583, 0, none⟩ = some (.string a0_0) := (blk_cell BK583.out 0).trans rfl
              have hcz16_1 : wc.cell? ⟨gb583, 1, none⟩ = some (.int .u8 a0_1) := (blk_cell BK583.out 1).trans rfl
              have hcz16_2 : wc.cell? ⟨gb583, 2, none⟩ = some (.bool a0_2) := (blk_cell BK583.out 2).trans rfl
              have hcz16_3 : wc.cell? ⟨gb583, 3, none⟩ = some (.int .i64 a0_3) := (blk_cell BK583.out 3).trans rfl
              have hcz16_4 : wc.cell? ⟨gb583, 4, none⟩ = some (.int .i64 a0_4) := (blk_cell BK583.out 4).trans rfl
              have hcz16_5 : wc.cell? ⟨gb583, 5, none⟩ = some (.int .i64 a0_5) := (blk_cell BK583.out 5).trans rfl
              have hfz16_0 := blk_frozen BK583.out 0
              have hfz16_1 := blk_frozen BK583.out 1
              have hfz16_2 := blk_frozen BK583.out 2
              have hfz16_3 := blk_frozen BK583.out 3
              have hfz16_4 := blk_frozen BK583.out 4
              have hfz16_5 := blk_frozen BK583.out 5
              go_wp2
              go_ret
              exact ⟨by first | rfl | (simp [errW_none, errW_some] <;> rfl) | (simp [*, errW_none, errW_some] <;> rfl), by repeat (first | (with_reducible first | exact HB.out | apply below_alloc | apply pw_below_drewN | apply below_drew1 | refine below_set ?_ GE583.out) | exact HB.out)⟩
        · rw [if_neg c11] at H
          have c11b0 : (a0_3 == 0) = false := beq_eq_false_iff_ne.mpr c11
          have c11b1 : (a0_3 != 0) = true := bne_iff_ne.mpr c11
          by_cases c17 : a0_3 = (-1)
          · rw [if_pos c17] at H
            have c17b0 : (a0_3 == (-1)) = true := beq_iff_eq.mpr c17
            have c17b1 : (a0_3 != (-1)) = false := bne_eq_false_iff_eq.mpr c17
            clear c17
            replace H := Option.bind_eq_some_iff.mp H
            obtain ⟨t584, A180, H⟩ := H
            replace H : (if t584 = true then (some (a0_5 == 0)) else (some false)) = some r := H
            have A18 := Aside0.mk A180
            clear A180
            by_cases c19 : t584 = true
            · subst c19
              have H1 : (some (a0_5 == 0)) = some r := by rw [if_pos rfl] at H; exact H
              clear H
              have H := H1
              clear H1
              obtain rfl := Option.some.inj H
              have hcz20_0 : wc.cell? ⟨gb583, 0, none⟩ = some (.string a0_0) := (blk_cell BK583.out 0).trans rfl
              have hcz20_1 : wc.cell? ⟨gb583, 1, none⟩ = some (.int .u8 a0_1) := (blk_cell BK583.out 1).trans rfl
              have hcz20_2 : wc.cell? ⟨gb583, 2, none⟩ = some (.bool a0_2) := (blk_cell BK583.out 2).trans rfl
              have hcz20_3 : wc.cell? ⟨gb583, 3, none⟩ = some (.int .i64 a0_3) := (blk_cell BK583.out 3).trans rfl
              have hcz20_4 : wc.cell? ⟨gb583, 4, none⟩ = some (.int .i64 a0_4) := (blk_cell BK583.out 4).trans rfl
              have hcz20_5 : wc.cell? ⟨gb583, 5, none⟩ = some (.int .i64 a0_5) := (blk_cell BK583.out 5).trans rfl
              have hfz20_0 := blk_frozen BK583.out 0
              have hfz20_1 := blk_frozen BK583.out 1
              have hfz20_2 := blk_frozen BK583.out 2
              have hfz20_3 := blk_frozen BK583.out 3
              have hfz20_4 := blk_frozen BK583.out 4
              have hfz20_5 := blk_frozen BK583.out 5
              go_wp2_with (first | ((with_reducible refine gate_callee (f := 87) rfl ?_); refine goesL_ (some 41) rfl rfl Try.func87 (by kernel_rfl) rfl #[.int .i64 a0_4, .int .i64 (-2147483648), .int .i64 4294967295] rfl (by (try simp only [List.map_toArray, List.map_cons, List.map_nil]); first | done | rfl | (simp only [List.length_drop, List.length_take]; rfl)) ?_; (with_reducible refine (sym_in.calls a0_4 (-2147483648) 4294967295 true _ A18.out).mono ?_); rintro e w' ⟨rfl, ⟨nd, rfl⟩⟩; refine ⟨_, rfl, ?_⟩))
              go_ret
              exact ⟨by first | rfl | (simp [errW_none, errW_some] <;> rfl) | (simp [*, errW_none, errW_some] <;> rfl), by repeat (first | (with_reducible first | exact HB.out | apply below_alloc | apply pw_below_drewN | apply below_drew1 | refine below_set ?_ GE583.out) | exact HB.out)⟩
            · replace c19 := Bool.eq_false_iff.mpr c19
              subst c19
              have H1 : (some false) = some r := by rw [if_neg (show ¬ (false = true) by decide)] at H; exact H
              clear H
              have H := H1
              clear H1
              obtain rfl := Option.some.inj H
              have hcz21_0 : wc.cell? ⟨gb583, 0, none⟩ = some (.string a0_0) := (blk_cell BK583.out 0).trans rfl
              have hcz21_1 : wc.cell? ⟨gb583, 1, none⟩ = some (.int .u8 a0_1) := (blk_cell BK583.out 1).trans rfl
              have hcz21_2 : wc.cell? ⟨gb583, 2, none⟩ = some (.bool a0_2) := (blk_cell BK583.out 2).trans rfl
              have hcz21_3 : wc.cell? ⟨gb583, 3, none⟩ = some (.int .i64 a0_3) := (blk_cell BK583.out 3).trans rfl
              have hcz21_4 : wc.cell? ⟨gb583, 4, none⟩ = some (.int .i64 a0_4) := (blk_cell BK583.out 4).trans rfl
              have hcz21_5 : wc.cell? ⟨gb583, 5, none⟩ = some (.int .i64 a0_5) := (blk_cell BK583.out 5).trans rfl
              have hfz21_0 := blk_frozen BK583.out 0
              have hfz21_1 := blk_frozen BK583.out 1
              have hfz21_2 := blk_frozen BK583.out 2
              have hfz21_3 := blk_frozen BK583.out 3
              have hfz21_4 := blk_frozen BK583.out 4
              have hfz21_5 := blk_frozen BK583.out 5
              go_wp2_with (first | ((with_reducible refine gate_callee (f := 87) rfl ?_); refine goesL_ (some 41) rfl rfl Try.func87 (by kernel_rfl) rfl #[.int .i64 a0_4, .int .i64 (-2147483648), .int .i64 4294967295] rfl (by (try simp only [List.map_toArray, List.map_cons, List.map_nil]); first | done | rfl | (simp only [List.length_drop, List.length_take]; rfl)) ?_; (with_reducible refine (sym_in.calls a0_4 (-2147483648) 4294967295 false _ A18.out).mono ?_); rintro e w' ⟨rfl, ⟨nd, rfl⟩⟩; refine ⟨_, rfl, ?_⟩))
              go_ret
              exact ⟨by first | rfl | (simp [errW_none, errW_some] <;> rfl) | (simp [*, errW_none, errW_some] <;> rfl), by repeat (first | (with_reducible first | exact HB.out | apply below_alloc | apply pw_below_drewN | apply below_drew1 | refine below_set ?_ GE583.out) | exact HB.out)⟩
          · rw [if_neg c17] at H
            have c17b0 : (a0_3 == (-1)) = false := beq_eq_false_iff_ne.mpr c17
            have c17b1 : (a0_3 != (-1)) = true := bne_iff_ne.mpr c17
            by_cases c22 : a0_3 = (-2)
            · rw [if_pos c22] at H
              have c22b0 : (a0_3 == (-2)) = true := beq_iff_eq.mpr c22
              have c22b1 : (a0_3 != (-2)) = false := bne_eq_false_iff_eq.mpr c22
              clear c22
              replace H := Option.bind_eq_some_iff.mp H
              obtain ⟨t585, A230, H⟩ := H
              replace H : (if t585 = 0 then ((sym_in.f a0_5 1 4096).bind fun t586 => (if t586 = true then (some (a0_1 == 1)) else (some false))) else (some false)) = some r := H
              have A23 := Aside0.mk A230
              clear A230
              by_cases c24 : t585 = 0
              · rw [if_pos c24] at H
                have c24b0 : (t585 == 0) = true := beq_iff_eq.mpr c24
                have c24b1 : (t585 != 0) = false := bne_eq_false_iff_eq.mpr c24
                clear c24
                replace H := Option.bind_eq_some_iff.mp H
                obtain ⟨t586, A250, H⟩ := H
                replace H : (if t586 = true then (some (a0_1 == 1)) else (some false)) = some r := H
                have A25 := Aside0.mk A250
                clear A250
                by_cases c26 : t586 = true
                · subst c26
                  have H1 : (some (a0_1 == 1)) = some r := by rw [if_pos rfl] at H; exact H
                  clear H
                  have H := H1
                  clear H1
                  obtain rfl := Option.some.inj H
                  have hcz27_0 : wc.cell? ⟨gb583, 0, none⟩ = some (.string a0_0) := (blk_cell BK583.out 0).trans rfl
                  have hcz27_1 : wc.cell? ⟨gb583, 1, none⟩ = some (.int .u8 a0_1) := (blk_cell BK583.out 1).trans rfl
                  have hcz27_2 : wc.cell? ⟨gb583, 2, none⟩ = some (.bool a0_2) := (blk_cell BK583.out 2).trans rfl
                  have hcz27_3 : wc.cell? ⟨gb583, 3, none⟩ = some (.int .i64 a0_3) := (blk_cell BK583.out 3).trans rfl
                  have hcz27_4 : wc.cell? ⟨gb583, 4, none⟩ = some (.int .i64 a0_4) := (blk_cell BK583.out 4).trans rfl
                  have hcz27_5 : wc.cell? ⟨gb583, 5, none⟩ = some (.int .i64 a0_5) := (blk_cell BK583.out 5).trans rfl
                  have hfz27_0 := blk_frozen BK583.out 0
                  have hfz27_1 := blk_frozen BK583.out 1
                  have hfz27_2 := blk_frozen BK583.out 2
                  have hfz27_3 := blk_frozen BK583.out 3
                  have hfz27_4 := blk_frozen BK583.out 4
                  have hfz27_5 := blk_frozen BK583.out 5
                  go_wp2_with (first | ((with_reducible refine gate_callee (f := 37) rfl ?_); refine goesL_ (some 54) rfl rfl Try.func37 (by kernel_rfl) rfl #[.agg #[.string (⟨#[46, 98, 115, 115]⟩ : ByteArray), .int .i64 a0_4, .slice none 0 0, .int .i64 0]] rfl (by (try simp only [List.map_toArray, List.map_cons, List.map_nil]); first | done | rfl | (simp only [List.length_drop, List.length_take]; rfl)) ?_; (refine (sect_Check.calls kj2 (⟨#[46, 98, 115, 115]⟩ : ByteArray) a0_4 _ _ ([] : List Int) 0 t585 _ ?side1 ?side2 A23.out).mono ?_); (case side1 => exact Kd.C_nil _ _); (case side2 => exact Nat.le_refl _); rintro e w28 ⟨rfl, hb⟩; refine ⟨_, rfl, ?_⟩; have n0_ := Aside0.mk (blk_below (g := gb583) (o := .cells #[.string a0_0, .int .u8 a0_1, .bool a0_2, .int .i64 a0_3, .int .i64 a0_4, .int .i64 a0_5] 64 (0, 0)) (by (with_reducible repeat (first | refine blk_drewN ?_ _ | refine blk_drew ?_ | refine blk_alloc ?_ _)); exact BK583.out) hb); have n1_ := Aside0.mk (below_step (by repeat (first | (with_reducible first | exact HB.out | apply below_alloc | apply pw_below_drewN | apply below_drew1 | refine below_set ?_ GE583.out) | exact HB.out)) hb); clear BK583; clear HB; have BK583 := n0_; have HB := n1_; clear n0_ n1_; (try clear hb); (try clear hb2); (try clear hk); (try clear hi); have hcz29_0 : w28.cell? ⟨gb583, 0, none⟩ = some (.string a0_0) := (blk_cell BK583.out 0).trans rfl; have hcz29_1 : w28.cell? ⟨gb583, 1, none⟩ = some (.int .u8 a0_1) := (blk_cell BK583.out 1).trans rfl; have hcz29_2 : w28.cell? ⟨gb583, 2, none⟩ = some (.bool a0_2) := (blk_cell BK583.out 2).trans rfl; have hcz29_3 : w28.cell? ⟨gb583, 3, none⟩ = some (.int .i64 a0_3) := (blk_cell BK583.out 3).trans rfl; have hcz29_4 : w28.cell? ⟨gb583, 4, none⟩ = some (.int .i64 a0_4) := (blk_cell BK583.out 4).trans rfl; have hcz29_5 : w28.cell? ⟨gb583, 5, none⟩ = some (.int .i64 a0_5) := (blk_cell BK583.out 5).trans rfl; have hfz29_0 := blk_frozen BK583.out 0; have hfz29_1 := blk_frozen BK583.out 1; have hfz29_2 := blk_frozen BK583.out 2; have hfz29_3 := blk_frozen BK583.out 3; have hfz29_4 := blk_frozen BK583.out 4; have hfz29_5 := blk_frozen BK583.out 5) | (go_at_call 87; (with_reducible refine (sym_in.calls a0_5 1 4096 true _ A25.out).mono ?_); rintro e w' ⟨rfl, ⟨nd, rfl⟩⟩))
                  go_ret
                  exact ⟨by first | rfl | (simp [errW_none, errW_some] <;> rfl) | (simp [*, errW_none, errW_some] <;> rfl), by repeat (first | (with_reducible first | exact HB.out | apply below_alloc | apply pw_below_drewN | apply below_drew1 | refine below_set ?_ GE583.out) | exact HB.out)⟩
                · replace c26 := Bool.eq_false_iff.mpr c26
                  subst c26
                  have H1 : (some false) = some r := by rw [if_neg (show ¬ (false = true) by decide)] at H; exact H
                  clear H
                  have H := H1
                  clear H1
                  obtain rfl := Option.some.inj H
                  have hcz30_0 : wc.cell? ⟨gb583, 0, none⟩ = some (.string a0_0) := (blk_cell BK583.out 0).trans rfl
                  have hcz30_1 : wc.cell? ⟨gb583, 1, none⟩ = some (.int .u8 a0_1) := (blk_cell BK583.out 1).trans rfl
                  have hcz30_2 : wc.cell? ⟨gb583, 2, none⟩ = some (.bool a0_2) := (blk_cell BK583.out 2).trans rfl
                  have hcz30_3 : wc.cell? ⟨gb583, 3, none⟩ = some (.int .i64 a0_3) := (blk_cell BK583.out 3).trans rfl
                  have hcz30_4 : wc.cell? ⟨gb583, 4, none⟩ = some (.int .i64 a0_4) := (blk_cell BK583.out 4).trans rfl
                  have hcz30_5 : wc.cell? ⟨gb583, 5, none⟩ = some (.int .i64 a0_5) := (blk_cell BK583.out 5).trans rfl
                  have hfz30_0 := blk_frozen BK583.out 0
                  have hfz30_1 := blk_frozen BK583.out 1
                  have hfz30_2 := blk_frozen BK583.out 2
                  have hfz30_3 := blk_frozen BK583.out 3
                  have hfz30_4 := blk_frozen BK583.out 4
                  have hfz30_5 := blk_frozen BK583.out 5
                  go_wp2_with (first | ((with_reducible refine gate_callee (f := 37) rfl ?_); refine goesL_ (some 54) rfl rfl Try.func37 (by kernel_rfl) rfl #[.agg #[.string (⟨#[46, 98, 115, 115]⟩ : ByteArray), .int .i64 a0_4, .slice none 0 0, .int .i64 0]] rfl (by (try simp only [List.map_toArray, List.map_cons, List.map_nil]); first | done | rfl | (simp only [List.length_drop, List.length_take]; rfl)) ?_; (refine (sect_Check.calls kj2 (⟨#[46, 98, 115, 115]⟩ : ByteArray) a0_4 _ _ ([] : List Int) 0 t585 _ ?side1 ?side2 A23.out).mono ?_); (case side1 => exact Kd.C_nil _ _); (case side2 => exact Nat.le_refl _); rintro e w31 ⟨rfl, hb⟩; refine ⟨_, rfl, ?_⟩; have n0_ := Aside0.mk (blk_below (g := gb583) (o := .cells #[.string a0_0, .int .u8 a0_1, .bool a0_2, .int .i64 a0_3, .int .i64 a0_4, .int .i64 a0_5] 64 (0, 0)) (by (with_reducible repeat (first | refine blk_drewN ?_ _ | refine blk_drew ?_ | refine blk_alloc ?_ _)); exact BK583.out) hb); have n1_ := Aside0.mk (below_step (by repeat (first | (with_reducible first | exact HB.out | apply below_alloc | apply pw_below_drewN | apply below_drew1 | refine below_set ?_ GE583.out) | exact HB.out)) hb); clear BK583; clear HB; have BK583 := n0_; have HB := n1_; clear n0_ n1_; (try clear hb); (try clear hb2); (try clear hk); (try clear hi); have hcz32_0 : w31.cell? ⟨gb583, 0, none⟩ = some (.string a0_0) := (blk_cell BK583.out 0).trans rfl; have hcz32_1 : w31.cell? ⟨gb583, 1, none⟩ = some (.int .u8 a0_1) := (blk_cell BK583.out 1).trans rfl; have hcz32_2 : w31.cell? ⟨gb583, 2, none⟩ = some (.bool a0_2) := (blk_cell BK583.out 2).trans rfl; have hcz32_3 : w31.cell? ⟨gb583, 3, none⟩ = some (.int .i64 a0_3) := (blk_cell BK583.out 3).trans rfl; have hcz32_4 : w31.cell? ⟨gb583, 4, none⟩ = some (.int .i64 a0_4) := (blk_cell BK583.out 4).trans rfl; have hcz32_5 : w31.cell? ⟨gb583, 5, none⟩ = some (.int .i64 a0_5) := (blk_cell BK583.out 5).trans rfl; have hfz32_0 := blk_frozen BK583.out 0; have hfz32_1 := blk_frozen BK583.out 1; have hfz32_2 := blk_frozen BK583.out 2; have hfz32_3 := blk_frozen BK583.out 3; have hfz32_4 := blk_frozen BK583.out 4; have hfz32_5 := blk_frozen BK583.out 5) | (go_at_call 87; (with_reducible refine (sym_in.calls a0_5 1 4096 false _ A25.out).mono ?_); rintro e w' ⟨rfl, ⟨nd, rfl⟩⟩))
                  go_ret
                  exact ⟨by first | rfl | (simp [errW_none, errW_some] <;> rfl) | (simp [*, errW_none, errW_some] <;> rfl), by repeat (first | (with_reducible first | exact HB.out | apply below_alloc | apply pw_below_drewN | apply below_drew1 | refine below_set ?_ GE583.out) | exact HB.out)⟩
              · rw [if_neg c24] at H
                have c24b0 : (t585 == 0) = false := beq_eq_false_iff_ne.mpr c24
                have c24b1 : (t585 != 0) = true := bne_iff_ne.mpr c24
                obtain rfl := Option.some.inj H
                have hcz33_0 : wc.cell? ⟨gb583, 0, none⟩ = some (.string a0_0) := (blk_cell BK583.out 0).trans rfl
                have hcz33_1 : wc.cell? ⟨gb583, 1, none⟩ = some (.int .u8 a0_1) := (blk_cell BK583.out 1).trans rfl
                have hcz33_2 : wc.cell? ⟨gb583, 2, none⟩ = some (.bool a0_2) := (blk_cell BK583.out 2).trans rfl
                have hcz33_3 : wc.cell? ⟨gb583, 3, none⟩ = some (.int .i64 a0_3) := (blk_cell BK583.out 3).trans rfl
                have hcz33_4 : wc.cell? ⟨gb583, 4, none⟩ = some (.int .i64 a0_4) := (blk_cell BK583.out 4).trans rfl
                have hcz33_5 : wc.cell? ⟨gb583, 5, none⟩ = some (.int .i64 a0_5) := (blk_cell BK583.out 5).trans rfl
                have hfz33_0 := blk_frozen BK583.out 0
                have hfz33_1 := blk_frozen BK583.out 1
                have hfz33_2 := blk_frozen BK583.out 2
                have hfz33_3 := blk_frozen BK583.out 3
                have hfz33_4 := blk_frozen BK583.out 4
                have hfz33_5 := blk_frozen BK583.out 5
                go_wp2_with (first | ((with_reducible refine gate_callee (f := 37) rfl ?_); refine goesL_ (some 54) rfl rfl Try.func37 (by kernel_rfl) rfl #[.agg #[.string (⟨#[46, 98, 115, 115]⟩ : ByteArray), .int .i64 a0_4, .slice none 0 0, .int .i64 0]] rfl (by (try simp only [List.map_toArray, List.map_cons, List.map_nil]); first | done | rfl | (simp only [List.length_drop, List.length_take]; rfl)) ?_; (refine (sect_Check.calls kj2 (⟨#[46, 98, 115, 115]⟩ : ByteArray) a0_4 _ _ ([] : List Int) 0 t585 _ ?side1 ?side2 A23.out).mono ?_); (case side1 => exact Kd.C_nil _ _); (case side2 => exact Nat.le_refl _); rintro e w34 ⟨rfl, hb⟩; refine ⟨_, rfl, ?_⟩; have n0_ := Aside0.mk (blk_below (g := gb583) (o := .cells #[.string a0_0, .int .u8 a0_1, .bool a0_2, .int .i64 a0_3, .int .i64 a0_4, .int .i64 a0_5] 64 (0, 0)) (by (with_reducible repeat (first | refine blk_drewN ?_ _ | refine blk_drew ?_ | refine blk_alloc ?_ _)); exact BK583.out) hb); have n1_ := Aside0.mk (below_step (by repeat (first | (with_reducible first | exact HB.out | apply below_alloc | apply pw_below_drewN | apply below_drew1 | refine below_set ?_ GE583.out) | exact HB.out)) hb); clear BK583; clear HB; have BK583 := n0_; have HB := n1_; clear n0_ n1_; (try clear hb); (try clear hb2); (try clear hk); (try clear hi)))
                go_ret
                exact ⟨by first | rfl | (simp [errW_none, errW_some] <;> rfl) | (simp [*, errW_none, errW_some] <;> rfl), by repeat (first | (with_reducible first | exact HB.out | apply below_alloc | apply pw_below_drewN | apply below_drew1 | refine below_set ?_ GE583.out) | exact HB.out)⟩
            · rw [if_neg c22] at H
              have c22b0 : (a0_3 == (-2)) = false := beq_eq_false_iff_ne.mpr c22
              have c22b1 : (a0_3 != (-2)) = true := bne_iff_ne.mpr c22
              replace H := Option.bind_eq_some_iff.mp H
              obtain ⟨t587, A350, H⟩ := H
              replace H : (if t587 = true then ((sym_in.f a0_4 0 4096).bind fun t588 => (if t588 = true then ((sym_in.f a0_5 0 4096).bind fun t589 => (some t589)) else (some false))) else (some false)) = some r := H
              have A35 := Aside0.mk A350
              clear A350
              by_cases c36 : t587 = true
              · subst c36
                have H1 : ((sym_in.f a0_4 0 4096).bind fun t588 => (if t588 = true then ((sym_in.f a0_5 0 4096).bind fun t589 => (some t589)) else (some false))) = some r := by rw [if_pos rfl] at H; exact H
                clear H
                have H := H1
                clear H1
                replace H := Option.bind_eq_some_iff.mp H
                obtain ⟨t588, A370, H⟩ := H
                replace H : (if t588 = true then ((sym_in.f a0_5 0 4096).bind fun t589 => (some t589)) else (some false)) = some r := H
                have A37 := Aside0.mk A370
                clear A370
                by_cases c38 : t588 = true
                · subst c38
                  have H1 : ((sym_in.f a0_5 0 4096).bind fun t589 => (some t589)) = some r := by rw [if_pos rfl] at H; exact H
                  clear H
                  have H := H1
                  clear H1
                  replace H := Option.bind_eq_some_iff.mp H
                  obtain ⟨t589, A390, H⟩ := H
                  replace H : (some t589) = some r := H
                  have A39 := Aside0.mk A390
                  clear A390
                  obtain rfl := Option.some.inj H
                  have hcz40_0 : wc.cell? ⟨gb583, 0, none⟩ = some (.string a0_0) := (blk_cell BK583.out 0).trans rfl
                  have hcz40_1 : wc.cell? ⟨gb583, 1, none⟩ = some (.int .u8 a0_1) := (blk_cell BK583.out 1).trans rfl
                  have hcz40_2 : wc.cell? ⟨gb583, 2, none⟩ = some (.bool a0_2) := (blk_cell BK583.out 2).trans rfl
                  have hcz40_3 : wc.cell? ⟨gb583, 3, none⟩ = some (.int .i64 a0_3) := (blk_cell BK583.out 3).trans rfl
                  have hcz40_4 : wc.cell? ⟨gb583, 4, none⟩ = some (.int .i64 a0_4) := (blk_cell BK583.out 4).trans rfl
                  have hcz40_5 : wc.cell? ⟨gb583, 5, none⟩ = some (.int .i64 a0_5) := (blk_cell BK583.out 5).trans rfl
                  have hfz40_0 := blk_frozen BK583.out 0
                  have hfz40_1 := blk_frozen BK583.out 1
                  have hfz40_2 := blk_frozen BK583.out 2
                  have hfz40_3 := blk_frozen BK583.out 3
                  have hfz40_4 := blk_frozen BK583.out 4
                  have hfz40_5 := blk_frozen BK583.out 5
                  go_wp2_with (first | ((with_reducible refine gate_callee (f := 87) rfl ?_); refine goesL_ (some 70) rfl rfl Try.func87 (by kernel_rfl) rfl #[.int .i64 a0_3, .int .i64 1, .int .i64 a1] rfl (by (try simp only [List.map_toArray, List.map_cons, List.map_nil]); first | done | rfl | (simp only [List.length_drop, List.length_take]; rfl)) ?_; (with_reducible refine (sym_in.calls a0_3 1 a1 true _ A35.out).mono ?_); rintro e w' ⟨rfl, ⟨nd, rfl⟩⟩; refine ⟨_, rfl, ?_⟩) | (go_at_call 87; (with_reducible refine (sym_in.calls a0_4 0 4096 true _ A37.out).mono ?_); rintro e w' ⟨rfl, ⟨nd, rfl⟩⟩) | (go_at_call 87; (with_reducible refine (sym_in.calls a0_5 0 4096 t589 _ A39.out).mono ?_); rintro e w' ⟨rfl, ⟨nd, rfl⟩⟩))
                  go_ret
                  exact ⟨by first | rfl | (simp [errW_none, errW_some] <;> rfl) | (simp [*, errW_none, errW_some] <;> rfl), by repeat (first | (with_reducible first | exact HB.out | apply below_alloc | apply pw_below_drewN | apply below_drew1 | refine below_set ?_ GE583.out) | exact HB.out)⟩
                · replace c38 := Bool.eq_false_iff.mpr c38
                  subst c38
                  have H1 : (some false) = some r := by rw [if_neg (show ¬ (false = true) by decide)] at H; exact H
                  clear H
                  have H := H1
                  clear H1
                  obtain rfl := Option.some.inj H
                  have hcz41_0 : wc.cell? ⟨gb583, 0, none⟩ = some (.string a0_0) := (blk_cell BK583.out 0).trans rfl
                  have hcz41_1 : wc.cell? ⟨gb583, 1, none⟩ = some (.int .u8 a0_1) := (blk_cell BK583.out 1).trans rfl
                  have hcz41_2 : wc.cell? ⟨gb583, 2, none⟩ = some (.bool a0_2) := (blk_cell BK583.out 2).trans rfl
                  have hcz41_3 : wc.cell? ⟨gb583, 3, none⟩ = some (.int .i64 a0_3) := (blk_cell BK583.out 3).trans rfl
                  have hcz41_4 : wc.cell? ⟨gb583, 4, none⟩ = some (.int .i64 a0_4) := (blk_cell BK583.out 4).trans rfl
                  have hcz41_5 : wc.cell? ⟨gb583, 5, none⟩ = some (.int .i64 a0_5) := (blk_cell BK583.out 5).trans rfl
                  have hfz41_0 := blk_frozen BK583.out 0
                  have hfz41_1 := blk_frozen BK583.out 1
                  have hfz41_2 := blk_frozen BK583.out 2
                  have hfz41_3 := blk_frozen BK583.out 3
                  have hfz41_4 := blk_frozen BK583.out 4
                  have hfz41_5 := blk_frozen BK583.out 5
                  go_wp2_with (first | ((with_reducible refine gate_callee (f := 87) rfl ?_); refine goesL_ (some 70) rfl rfl Try.func87 (by kernel_rfl) rfl #[.int .i64 a0_3, .int .i64 1, .int .i64 a1] rfl (by (try simp only [List.map_toArray, List.map_cons, List.map_nil]); first | done | rfl | (simp only [List.length_drop, List.length_take]; rfl)) ?_; (with_reducible refine (sym_in.calls a0_3 1 a1 true _ A35.out).mono ?_); rintro e w' ⟨rfl, ⟨nd, rfl⟩⟩; refine ⟨_, rfl, ?_⟩) | (go_at_call 87; (with_reducible refine (sym_in.calls a0_4 0 4096 false _ A37.out).mono ?_); rintro e w' ⟨rfl, ⟨nd, rfl⟩⟩))
                  go_ret
                  exact ⟨by first | rfl | (simp [errW_none, errW_some] <;> rfl) | (simp [*, errW_none, errW_some] <;> rfl), by repeat (first | (with_reducible first | exact HB.out | apply below_alloc | apply pw_below_drewN | apply below_drew1 | refine below_set ?_ GE583.out) | exact HB.out)⟩
              · replace c36 := Bool.eq_false_iff.mpr c36
                subst c36
                have H1 : (some false) = some r := by rw [if_neg (show ¬ (false = true) by decide)] at H; exact H
                clear H
                have H := H1
                clear H1
                obtain rfl := Option.some.inj H
                have hcz42_0 : wc.cell? ⟨gb583, 0, none⟩ = some (.string a0_0) := (blk_cell BK583.out 0).trans rfl
                have hcz42_1 : wc.cell? ⟨gb583, 1, none⟩ = some (.int .u8 a0_1) := (blk_cell BK583.out 1).trans rfl
                have hcz42_2 : wc.cell? ⟨gb583, 2, none⟩ = some (.bool a0_2) := (blk_cell BK583.out 2).trans rfl
                have hcz42_3 : wc.cell? ⟨gb583, 3, none⟩ = some (.int .i64 a0_3) := (blk_cell BK583.out 3).trans rfl
                have hcz42_4 : wc.cell? ⟨gb583, 4, none⟩ = some (.int .i64 a0_4) := (blk_cell BK583.out 4).trans rfl
                have hcz42_5 : wc.cell? ⟨gb583, 5, none⟩ = some (.int .i64 a0_5) := (blk_cell BK583.out 5).trans rfl
                have hfz42_0 := blk_frozen BK583.out 0
                have hfz42_1 := blk_frozen BK583.out 1
                have hfz42_2 := blk_frozen BK583.out 2
                have hfz42_3 := blk_frozen BK583.out 3
                have hfz42_4 := blk_frozen BK583.out 4
                have hfz42_5 := blk_frozen BK583.out 5
                go_wp2_with (first | ((with_reducible refine gate_callee (f := 87) rfl ?_); refine goesL_ (some 70) rfl rfl Try.func87 (by kernel_rfl) rfl #[.int .i64 a0_3, .int .i64 1, .int .i64 a1] rfl (by (try simp only [List.map_toArray, List.map_cons, List.map_nil]); first | done | rfl | (simp only [List.length_drop, List.length_take]; rfl)) ?_; (with_reducible refine (sym_in.calls a0_3 1 a1 false _ A35.out).mono ?_); rintro e w' ⟨rfl, ⟨nd, rfl⟩⟩; refine ⟨_, rfl, ?_⟩))
                go_ret
                exact ⟨by first | rfl | (simp [errW_none, errW_some] <;> rfl) | (simp [*, errW_none, errW_some] <;> rfl), by repeat (first | (with_reducible first | exact HB.out | apply below_alloc | apply pw_below_drewN | apply below_drew1 | refine below_set ?_ GE583.out) | exact HB.out)⟩

/-! ### sym_Check: function 50 -/
def sym_Check.f (k : Nat) (a0_0 : ByteArray) (a0_1 : Int) (a0_2 : Bool) (a0_3 : Int) (a0_4 : Int) (a0_5 : Int) (a1 : Int) : Option (Int) := (sym_in.f a1 0 16).bind fun t591 => (if t591 = true then ((sym_named.f k a0_0).bind fun t592 => (if t592 = true then ((sym_stands.f k a0_0 a0_1 a0_2 a0_3 a0_4 a0_5 a1).bind fun t593 => (if t593 = true then (some 0) else (some 8))) else (some 8))) else (some 2))
theorem sym_Check.mono : ∀ a0 a1 a2 a3 a4 a5 a6 k, LeO (sym_Check.f k a0 a1 a2 a3 a4 a5 a6) (sym_Check.f (k + 1) a0 a1 a2 a3 a4 a5 a6) := by
  intro a0 a1 a2 a3 a4 a5 a6 k
  unfold sym_Check.f
  repeat' first
      | (with_reducible exact sym_named.mono _ _)
      | (with_reducible exact sym_stands.mono _ _ _ _ _ _ _ _)
      | (with_reducible exact LeO.refl _)
      | (with_reducible exact LeO.none _)
      | (with_reducible refine LeO.ite ?_ ?_)
      | (with_reducible refine LeO.bind ?_ (fun _ => ?_))
      | exact sym_named.mono _ _
      | exact sym_stands.mono _ _ _ _ _ _ _ _
      | exact LeO.none _
      | refine LeO.ite ?_ ?_
      | refine LeO.bind ?_ (fun _ => ?_)
set_option maxHeartbeats 8000000 in
set_option maxRecDepth 100000 in
theorem sym_Check.calls (k : Nat) (a0_0 : ByteArray) (a0_1 : Int) (a0_2 : Bool) (a0_3 : Int) (a0_4 : Int) (a0_5 : Int) (a1 : Int) (r : Int) (w : World) (h : sym_Check.f k a0_0 a0_1 a0_2 a0_3 a0_4 a0_5 a1 = some r) :
    Calls Try.prog 50 #[.agg #[.string a0_0, .int .u8 a0_1, .bool a0_2, .int .i64 a0_3, .int .i64 a0_4, .int .i64 a0_5], .int .i64 a1] w fun e w' => e = .returned (.int .i64 r) ∧ Below w.heap.size w w' := by
  have hu64 := Try.underlying64
  have HB := Aside0.mk (Below.refl w.heap.size w)
  have H : ((sym_in.f a1 0 16).bind fun t591 => (if t591 = true then ((sym_named.f k a0_0).bind fun t592 => (if t592 = true then ((sym_stands.f k a0_0 a0_1 a0_2 a0_3 a0_4 a0_5 a1).bind fun t593 => (if t593 = true then (some 0) else (some 8))) else (some 8))) else (some 2))) = some r := h
  clear h
  replace H := Option.bind_eq_some_iff.mp H
  obtain ⟨t591, A30, H⟩ := H
  replace H : (if t591 = true then ((sym_named.f k a0_0).bind fun t592 => (if t592 = true then ((sym_stands.f k a0_0 a0_1 a0_2 a0_3 a0_4 a0_5 a1).bind fun t593 => (if t593 = true then (some 0) else (some 8))) else (some 8))) else (some 2)) = some r := H
  have A3 := Aside0.mk A30
  clear A30
  by_cases c4 : t591 = true
  · subst c4
    have H1 : ((sym_named.f k a0_0).bind fun t592 => (if t592 = true then ((sym_stands.f k a0_0 a0_1 a0_2 a0_3 a0_4 a0_5 a1).bind fun t593 => (if t593 = true then (some 0) else (some 8))) else (some 8))) = some r := by rw [if_pos rfl] at H; exact H
    clear H
    have H := H1
    clear H1
    replace H := Option.bind_eq_some_iff.mp H
    obtain ⟨t592, A50, H⟩ := H
    replace H : (if t592 = true then ((sym_stands.f k a0_0 a0_1 a0_2 a0_3 a0_4 a0_5 a1).bind fun t593 => (if t593 = true then (some 0) else (some 8))) else (some 8)) = some r := H
    have A5 := Aside0.mk A50
    clear A50
    by_cases c6 : t592 = true
    · subst c6
      have H1 : ((sym_stands.f k a0_0 a0_1 a0_2 a0_3 a0_4 a0_5 a1).bind fun t593 => (if t593 = true then (some 0) else (some 8))) = some r := by rw [if_pos rfl] at H; exact H
      clear H
      have H := H1
      clear H1
      replace H := Option.bind_eq_some_iff.mp H
      obtain ⟨t593, A70, H⟩ := H
      replace H : (if t593 = true then (some 0) else (some 8)) = some r := H
      have A7 := Aside0.mk A70
      clear A70
      by_cases c8 : t593 = true
      · subst c8
        have H1 : (some 0) = some r := by rw [if_pos rfl] at H; exact H
        clear H
        have H := H1
        clear H1
        obtain rfl := Option.some.inj H
        go_enter Try.func50, Try.ntmps50
        go_wp2_with (first | ((with_reducible refine gate_dst (N := 2) rfl ?_); refine box_event ?hg (N := 2) ?hd (cs := #[.string a0_0, .int .u8 a0_1, .bool a0_2, .int .i64 a0_3, .int .i64 a0_4, .int .i64 a0_5]) (t := 64) ?hr ?_; (case hd => rfl); (case hg => rfl); (case hr => first | (go_simp; done) | (go_simp; rfl)); intro gb590 hg w9 hbox hb; have n0_ := Aside0.mk (below_step (by repeat (first | (with_reducible first | exact HB.out | apply below_alloc | apply pw_below_drewN | apply below_drew1) | exact HB.out)) hb); have n1_ := Aside0.mk (hbox); have n2_ := Aside0.mk ((by rw [hg]; exact (below_size (by repeat (first | (with_reducible first | exact HB.out | apply below_alloc | apply pw_below_drewN | apply below_drew1) | exact HB.out))) : w.heap.size ≤ gb590)); have n3_ := Aside0.mk ((by rw [hg]; exact (below_size (by repeat (first | (with_reducible first | exact HB.out | apply below_alloc | apply pw_below_drewN | apply below_drew1) | exact HB.out))) : w.heap.size ≤ gb590)); clear HB; have HB := n0_; have BK590 := n1_; have GW590 := n2_; have GE590 := n3_; clear n0_ n1_ n2_ n3_; clear hb hbox hg) | ((with_reducible refine gate_callee (f := 87) rfl ?_); refine goesL_ (some 6) rfl rfl Try.func87 (by kernel_rfl) rfl #[.int .i64 a1, .int .i64 0, .int .i64 16] rfl (by (try simp only [List.map_toArray, List.map_cons, List.map_nil]); first | done | rfl | (simp only [List.length_drop, List.length_take]; rfl)) ?_; (with_reducible refine (sym_in.calls a1 0 16 true _ A3.out).mono ?_); rintro e w' ⟨rfl, ⟨nd, rfl⟩⟩; refine ⟨_, rfl, ?_⟩; have hcz10_0 : w9.cell? ⟨gb590, 0, none⟩ = some (.string a0_0) := (blk_cell BK590.out 0).trans rfl; have hcz10_1 : w9.cell? ⟨gb590, 1, none⟩ = some (.int .u8 a0_1) := (blk_cell BK590.out 1).trans rfl; have hcz10_2 : w9.cell? ⟨gb590, 2, none⟩ = some (.bool a0_2) := (blk_cell BK590.out 2).trans rfl; have hcz10_3 : w9.cell? ⟨gb590, 3, none⟩ = some (.int .i64 a0_3) := (blk_cell BK590.out 3).trans rfl; have hcz10_4 : w9.cell? ⟨gb590, 4, none⟩ = some (.int .i64 a0_4) := (blk_cell BK590.out 4).trans rfl; have hcz10_5 : w9.cell? ⟨gb590, 5, none⟩ = some (.int .i64 a0_5) := (blk_cell BK590.out 5).trans rfl; have hfz10_0 := blk_frozen BK590.out 0; have hfz10_1 := blk_frozen BK590.out 1; have hfz10_2 := blk_frozen BK590.out 2; have hfz10_3 := blk_frozen BK590.out 3; have hfz10_4 := blk_frozen BK590.out 4; have hfz10_5 := blk_frozen BK590.out 5) | ((with_reducible refine gate_callee (f := 88) rfl ?_); refine goesL_ (some 10) rfl rfl Try.func88 (by kernel_rfl) rfl #[.string a0_0] rfl (by (try simp only [List.map_toArray, List.map_cons, List.map_nil]); first | done | rfl | (simp only [List.length_drop, List.length_take]; rfl)) ?_; (with_reducible refine (sym_named.calls k a0_0 true _ A5.out).mono ?_); rintro e w' ⟨rfl, ⟨nd, rfl⟩⟩; refine ⟨_, rfl, ?_⟩) | (go_at_call 89; (with_reducible refine (sym_stands.calls k a0_0 a0_1 a0_2 a0_3 a0_4 a0_5 a1 true _ A7.out).mono ?_); rintro e w11 ⟨rfl, hb⟩; have n0_ := Aside0.mk (blk_below (g := gb590) (o := .cells #[.string a0_0, .int .u8 a0_1, .bool a0_2, .int .i64 a0_3, .int .i64 a0_4, .int .i64 a0_5] 64 (0, 0)) (by (with_reducible repeat (first | refine blk_drewN ?_ _ | refine blk_drew ?_ | refine blk_alloc ?_ _)); exact BK590.out) hb); have n1_ := Aside0.mk (below_step (by repeat (first | (with_reducible first | exact HB.out | apply below_alloc | apply pw_below_drewN | apply below_drew1 | refine below_set ?_ GE590.out) | exact HB.out)) hb); clear BK590; clear HB; have BK590 := n0_; have HB := n1_; clear n0_ n1_; (try clear hb); (try clear hb2); (try clear hk); (try clear hi)))
        go_ret
        exact ⟨by first | rfl | (simp [errW_none, errW_some] <;> rfl) | (simp [*, errW_none, errW_some] <;> rfl), by repeat (first | (with_reducible first | exact HB.out | apply below_alloc | apply pw_below_drewN | apply below_drew1 | refine below_set ?_ GE590.out) | exact HB.out)⟩
      · replace c8 := Bool.eq_false_iff.mpr c8
        subst c8
        have H1 : (some 8) = some r := by rw [if_neg (show ¬ (false = true) by decide)] at H; exact H
        clear H
        have H := H1
        clear H1
        obtain rfl := Option.some.inj H
        go_enter Try.func50, Try.ntmps50
        go_wp2_with (first | ((with_reducible refine gate_dst (N := 2) rfl ?_); refine box_event ?hg (N := 2) ?hd (cs := #[.string a0_0, .int .u8 a0_1, .bool a0_2, .int .i64 a0_3, .int .i64 a0_4, .int .i64 a0_5]) (t := 64) ?hr ?_; (case hd => rfl); (case hg => rfl); (case hr => first | (go_simp; done) | (go_simp; rfl)); intro gb590 hg w12 hbox hb; have n0_ := Aside0.mk (below_step (by repeat (first | (with_reducible first | exact HB.out | apply below_alloc | apply pw_below_drewN | apply below_drew1) | exact HB.out)) hb); have n1_ := Aside0.mk (hbox); have n2_ := Aside0.mk ((by rw [hg]; exact (below_size (by repeat (first | (with_reducible first | exact HB.out | apply below_alloc | apply pw_below_drewN | apply below_drew1) | exact HB.out))) : w.heap.size ≤ gb590)); have n3_ := Aside0.mk ((by rw [hg]; exact (below_size (by repeat (first | (with_reducible first | exact HB.out | apply below_alloc | apply pw_below_drewN | apply below_drew1) | exact HB.out))) : w.heap.size ≤ gb590)); clear HB; have HB := n0_; have BK590 := n1_; have GW590 := n2_; have GE590 := n3_; clear n0_ n1_ n2_ n3_; clear hb hbox hg) | ((with_reducible refine gate_callee (f := 87) rfl ?_); refine goesL_ (some 6) rfl rfl Try.func87 (by kernel_rfl) rfl #[.int .i64 a1, .int .i64 0, .int .i64 16] rfl (by (try simp only [List.map_toArray, List.map_cons, List.map_nil]); first | done | rfl | (simp only [List.length_drop, List.length_take]; rfl)) ?_; (with_reducible refine (sym_in.calls a1 0 16 true _ A3.out).mono ?_); rintro e w' ⟨rfl, ⟨nd, rfl⟩⟩; refine ⟨_, rfl, ?_⟩; have hcz13_0 : w12.cell? ⟨gb590, 0, none⟩ = some (.string a0_0) := (blk_cell BK590.out 0).trans rfl; have hcz13_1 : w12.cell? ⟨gb590, 1, none⟩ = some (.int .u8 a0_1) := (blk_cell BK590.out 1).trans rfl; have hcz13_2 : w12.cell? ⟨gb590, 2, none⟩ = some (.bool a0_2) := (blk_cell BK590.out 2).trans rfl; have hcz13_3 : w12.cell? ⟨gb590, 3, none⟩ = some (.int .i64 a0_3) := (blk_cell BK590.out 3).trans rfl; have hcz13_4 : w12.cell? ⟨gb590, 4, none⟩ = some (.int .i64 a0_4) := (blk_cell BK590.out 4).trans rfl; have hcz13_5 : w12.cell? ⟨gb590, 5, none⟩ = some (.int .i64 a0_5) := (blk_cell BK590.out 5).trans rfl; have hfz13_0 := blk_frozen BK590.out 0; have hfz13_1 := blk_frozen BK590.out 1; have hfz13_2 := blk_frozen BK590.out 2; have hfz13_3 := blk_frozen BK590.out 3; have hfz13_4 := blk_frozen BK590.out 4; have hfz13_5 := blk_frozen BK590.out 5) | ((with_reducible refine gate_callee (f := 88) rfl ?_); refine goesL_ (some 10) rfl rfl Try.func88 (by kernel_rfl) rfl #[.string a0_0] rfl (by (try simp only [List.map_toArray, List.map_cons, List.map_nil]); first | done | rfl | (simp only [List.length_drop, List.length_take]; rfl)) ?_; (with_reducible refine (sym_named.calls k a0_0 true _ A5.out).mono ?_); rintro e w' ⟨rfl, ⟨nd, rfl⟩⟩; refine ⟨_, rfl, ?_⟩) | (go_at_call 89; (with_reducible refine (sym_stands.calls k a0_0 a0_1 a0_2 a0_3 a0_4 a0_5 a1 false _ A7.out).mono ?_); rintro e w14 ⟨rfl, hb⟩; have n0_ := Aside0.mk (blk_below (g := gb590) (o := .cells #[.string a0_0, .int .u8 a0_1, .bool a0_2, .int .i64 a0_3, .int .i64 a0_4, .int .i64 a0_5] 64 (0, 0)) (by (with_reducible repeat (first | refine blk_drewN ?_ _ | refine blk_drew ?_ | refine blk_alloc ?_ _)); exact BK590.out) hb); have n1_ := Aside0.mk (below_step (by repeat (first | (with_reducible first | exact HB.out | apply below_alloc | apply pw_below_drewN | apply below_drew1 | refine below_set ?_ GE590.out) | exact HB.out)) hb); clear BK590; clear HB; have BK590 := n0_; have HB := n1_; clear n0_ n1_; (try clear hb); (try clear hb2); (try clear hk); (try clear hi)))
        go_ret
        exact ⟨by first | rfl | (simp [errW_none, errW_some] <;> rfl) | (simp [*, errW_none, errW_some] <;> rfl), by repeat (first | (with_reducible first | exact HB.out | apply below_alloc | apply pw_below_drewN | apply below_drew1 | refine below_set ?_ GE590.out) | exact HB.out)⟩
    · replace c6 := Bool.eq_false_iff.mpr c6
      subst c6
      have H1 : (some 8) = some r := by rw [if_neg (show ¬ (false = true) by decide)] at H; exact H
      clear H
      have H := H1
      clear H1
      obtain rfl := Option.some.inj H
      go_enter Try.func50, Try.ntmps50
      go_wp2_with (first | ((with_reducible refine gate_dst (N := 2) rfl ?_); refine box_event ?hg (N := 2) ?hd (cs := #[.string a0_0, .int .u8 a0_1, .bool a0_2, .int .i64 a0_3, .int .i64 a0_4, .int .i64 a0_5]) (t := 64) ?hr ?_; (case hd => rfl); (case hg => rfl); (case hr => first | (go_simp; done) | (go_simp; rfl)); intro gb590 hg w15 hbox hb; have n0_ := Aside0.mk (below_step (by repeat (first | (with_reducible first | exact HB.out | apply below_alloc | apply pw_below_drewN | apply below_drew1) | exact HB.out)) hb); have n1_ := Aside0.mk (hbox); have n2_ := Aside0.mk ((by rw [hg]; exact (below_size (by repeat (first | (with_reducible first | exact HB.out | apply below_alloc | apply pw_below_drewN | apply below_drew1) | exact HB.out))) : w.heap.size ≤ gb590)); have n3_ := Aside0.mk ((by rw [hg]; exact (below_size (by repeat (first | (with_reducible first | exact HB.out | apply below_alloc | apply pw_below_drewN | apply below_drew1) | exact HB.out))) : w.heap.size ≤ gb590)); clear HB; have HB := n0_; have BK590 := n1_; have GW590 := n2_; have GE590 := n3_; clear n0_ n1_ n2_ n3_; clear hb hbox hg) | ((with_reducible refine gate_callee (f := 87) rfl ?_); refine goesL_ (some 6) rfl rfl Try.func87 (by kernel_rfl) rfl #[.int .i64 a1, .int .i64 0, .int .i64 16] rfl (by (try simp only [List.map_toArray, List.map_cons, List.map_nil]); first | done | rfl | (simp only [List.length_drop, List.length_take]; rfl)) ?_; (with_reducible refine (sym_in.calls a1 0 16 true _ A3.out).mono ?_); rintro e w' ⟨rfl, ⟨nd, rfl⟩⟩; refine ⟨_, rfl, ?_⟩; have hcz16_0 : w15.cell? ⟨gb590, 0, none⟩ = some (.string a0_0) := (blk_cell BK590.out 0).trans rfl; have hcz16_1 : w15.cell? ⟨gb590, 1, none⟩ = some (.int .u8 a0_1) := (blk_cell BK590.out 1).trans rfl; have hcz16_2 : w15.cell? ⟨gb590, 2, none⟩ = some (.bool a0_2) := (blk_cell BK590.out 2).trans rfl; have hcz16_3 : w15.cell? ⟨gb590, 3, none⟩ = some (.int .i64 a0_3) := (blk_cell BK590.out 3).trans rfl; have hcz16_4 : w15.cell? ⟨gb590, 4, none⟩ = some (.int .i64 a0_4) := (blk_cell BK590.out 4).trans rfl; have hcz16_5 : w15.cell? ⟨gb590, 5, none⟩ = some (.int .i64 a0_5) := (blk_cell BK590.out 5).trans rfl; have hfz16_0 := blk_frozen BK590.out 0; have hfz16_1 := blk_frozen BK590.out 1; have hfz16_2 := blk_frozen BK590.out 2; have hfz16_3 := blk_frozen BK590.out 3; have hfz16_4 := blk_frozen BK590.out 4; have hfz16_5 := blk_frozen BK590.out 5) | ((with_reducible refine gate_callee (f := 88) rfl ?_); refine goesL_ (some 10) rfl rfl Try.func88 (by kernel_rfl) rfl #[.string a0_0] rfl (by (try simp only [List.map_toArray, List.map_cons, List.map_nil]); first | done | rfl | (simp only [List.length_drop, List.length_take]; rfl)) ?_; (with_reducible refine (sym_named.calls k a0_0 false _ A5.out).mono ?_); rintro e w' ⟨rfl, ⟨nd, rfl⟩⟩; refine ⟨_, rfl, ?_⟩))
      go_ret
      exact ⟨by first | rfl | (simp [errW_none, errW_some] <;> rfl) | (simp [*, errW_none, errW_some] <;> rfl), by repeat (first | (with_reducible first | exact HB.out | apply below_alloc | apply pw_below_drewN | apply below_drew1 | refine below_set ?_ GE590.out) | exact HB.out)⟩
  · replace c4 := Bool.eq_false_iff.mpr c4
    subst c4
    have H1 : (some 2) = some r := by rw [if_neg (show ¬ (false = true) by decide)] at H; exact H
    clear H
    have H := H1
    clear H1
    obtain rfl := Option.some.inj H
    go_enter Try.func50, Try.ntmps50
    go_wp2_with (first | ((with_reducible refine gate_dst (N := 2) rfl ?_); refine box_event ?hg (N := 2) ?hd (cs := #[.string a0_0, .int .u8 a0_1, .bool a0_2, .int .i64 a0_3, .int .i64 a0_4, .int .i64 a0_5]) (t := 64) ?hr ?_; (case hd => rfl); (case hg => rfl); (case hr => first | (go_simp; done) | (go_simp; rfl)); intro gb590 hg w17 hbox hb; have n0_ := Aside0.mk (below_step (by repeat (first | (with_reducible first | exact HB.out | apply below_alloc | apply pw_below_drewN | apply below_drew1) | exact HB.out)) hb); have n1_ := Aside0.mk (hbox); have n2_ := Aside0.mk ((by rw [hg]; exact (below_size (by repeat (first | (with_reducible first | exact HB.out | apply below_alloc | apply pw_below_drewN | apply below_drew1) | exact HB.out))) : w.heap.size ≤ gb590)); have n3_ := Aside0.mk ((by rw [hg]; exact (below_size (by repeat (first | (with_reducible first | exact HB.out | apply below_alloc | apply pw_below_drewN | apply below_drew1) | exact HB.out))) : w.heap.size ≤ gb590)); clear HB; have HB := n0_; have BK590 := n1_; have GW590 := n2_; have GE590 := n3_; clear n0_ n1_ n2_ n3_; clear hb hbox hg) | ((with_reducible refine gate_callee (f := 87) rfl ?_); refine goesL_ (some 6) rfl rfl Try.func87 (by kernel_rfl) rfl #[.int .i64 a1, .int .i64 0, .int .i64 16] rfl (by (try simp only [List.map_toArray, List.map_cons, List.map_nil]); first | done | rfl | (simp only [List.length_drop, List.length_take]; rfl)) ?_; (with_reducible refine (sym_in.calls a1 0 16 false _ A3.out).mono ?_); rintro e w' ⟨rfl, ⟨nd, rfl⟩⟩; refine ⟨_, rfl, ?_⟩))
    go_ret
    exact ⟨by first | rfl | (simp [errW_none, errW_some] <;> rfl) | (simp [*, errW_none, errW_some] <;> rfl), by repeat (first | (with_reducible first | exact HB.out | apply below_alloc | apply pw_below_drewN | apply below_drew1 | refine below_set ?_ GE590.out) | exact HB.out)⟩

end Go.Proofs.Ytomabnfeipobnaa.P
