/- Texts of this seat in one (Px27), what nothing speaks of left out: by pack.py, a program of this session. -/
import Derived.Test.YtbfndlfemhidaaaGreatDoorPx0
import Derived.Test.YtbfndlfemhidaaaGreatDoorPx8
import Derived.Test.YtbfndlfemhidaaaGreatDoorPx9
import Derived.Test.YtbfndlfemhidaaaGreatDoorPx13
import Derived.Test.YtbfndlfemhidaaaGreatDoorPx14
namespace Go.Proofs.YtbfndlfemhidaaaGreatDoorW.PrintWords
open Go.RowKit
namespace Kd
section
variable {α : Type} {d : Kd α} {e e' : Nat} {w w1 W : World} {base : Nat} {ok : Nat → Prop} {u v : Value} {xs : List α}
theorem R_elder' (hu : d.R e W base ok u xs) (hbase : ∀ k, v.ownBlock = some k → W.heap.size ≤ k) (hb : Below W.heap.size W w1) : d.R e w1 base (fun k => ok k ∧ some k ≠ v.ownBlock) u xs :=
 R_mono (R_move (R_bound hu) (fun k hk => hb.block k hk.2.2.1)) (fun k hk => ⟨hk.1, fun he => by have := hbase k he.symm; have := hk.2.2.1; omega⟩)
theorem R_new' (h : d.R e w1 W.heap.size ok v xs) (hlt : ∀ k, u.ownBlock = some k → k < W.heap.size) : d.R e w1 W.heap.size (fun k => ok k ∧ some k ≠ u.ownBlock) v xs :=
 R_mono (R_bound h) (fun k hk => ⟨hk.1, fun he => by have := hlt k he.symm; have := hk.2.1; omega⟩)
end
end Kd
end Go.Proofs.YtbfndlfemhidaaaGreatDoorW.PrintWords
namespace Go.Proofs.YtbfndlfemhidaaaGreatDoor.P
open Go.RowKit Go.Proofs.YtbfndlfemhidaaaGreatDoor.LexP Go.Proofs.YtbfndlfemhidaaaGreatDoorW.PrintWords Go.Proofs.YtbfndlfemhidaaaGreatDoorW.PrintLast Go.Proofs.YtbfndlfemhidaaaGreatDoorW.PrintMore
theorem qbv32 {P : Prop} (h : P := by exact (Kd.R_reads' HO652.out).2.1) : P := h
theorem qbv31 {P : Prop} (h : P := by exact (Kd.R_reads' HO648.out).2.1) : P := h
theorem qbv30 {P : Prop} (h : P := by first | (go_simp; done) | (go_simp; rfl)) : P := h
theorem qbv29 {P : Prop} (h : P := by (with_reducible repeat (first | apply Kd.R_alloc | apply Kd.R_drewN | apply Kd.R_drew)); exact HO652.out) : P := h
theorem qbv28 {P : Prop} (h : P := by (with_reducible repeat (first | apply Kd.R_alloc | apply Kd.R_drewN | apply Kd.R_drew)); exact HO648.out) : P := h
theorem qbv27 {P : Prop} (h : P := by (with_reducible repeat (first | refine blk_drewN ?_ _ | refine blk_drew ?_ | refine blk_alloc ?_ _)); exact BK654.out) : P := h
theorem qbv26 {P : Prop} (h : P := by repeat (first | (with_reducible first | exact HB.out | apply below_alloc | apply pw_below_drewN | apply below_drew1) | exact HB.out)) : P := h
theorem qbv25 {P : Prop} (h : P := by (try simp only [List.map_toArray, List.map_cons, List.map_nil]); first | done | rfl | (simp only [List.length_drop, List.length_take]; rfl)) : P := h
theorem qbv24 {P : Prop} (h : P := by exact HM_.out.below qbv26) : P := h
theorem qbv23 {P : Prop} (h : P := by exact HG_.out.below qbv26) : P := h
theorem qbv22 {P : Prop} (h : P := by exact HE_.out.below qbv26) : P := h
theorem qbv21 {P : Prop} (h : P := by exact HD_.out.below qbv26) : P := h
theorem qbv20 {P : Prop} (h : P := by repeat (first | (with_reducible first | exact HB.out | apply below_alloc | apply pw_below_drewN | apply below_drew1 | refine below_set ?_ GE654.out) | exact HB.out)) : P := h
theorem qbv19 {P : Prop} (h : P := by repeat (first | exact (Kd.R_reads' HO652.out).2.2 | (with_reducible refine Kd.C_alloc ?_ _) | (with_reducible refine Kd.C_drewN ?_ _) | (with_reducible refine Kd.C_drew ?_))) : P := h
theorem qbv18 {P : Prop} (h : P := by repeat (first | exact (Kd.R_reads' HO648.out).2.2 | (with_reducible refine Kd.C_alloc ?_ _) | (with_reducible refine Kd.C_drewN ?_ _) | (with_reducible refine Kd.C_drew ?_))) : P := h
theorem qbv17 {P : Prop} (h : P := by exact Lib.tabBelow_of_tabIs HT.out _ qbv26) : P := h
theorem qbv16 {P : Prop} (h : P := by exact HM_.out.below qbv20) : P := h
theorem qbv15 {P : Prop} (h : P := by exact HG_.out.below qbv20) : P := h
theorem qbv14 {P : Prop} (h : P := by exact HE_.out.below qbv20) : P := h
theorem qbv13 {P : Prop} (h : P := by exact HD_.out.below qbv20) : P := h
theorem qbv12 {P : Prop} (h : P := by exact Lib.tabBelow_of_tabIs HT.out _ qbv20) : P := h
theorem qbv11 {P : Prop} (h : P := by (with_reducible repeat (first | apply Kd.R_alloc | apply Kd.R_drewN | apply Kd.R_drew)); exact (Kd.R_mono (Kd.R_far (p := ⟨gb667, 2, none⟩) (Kd.R_far (p := ⟨gb667, 1, none⟩) (Kd.R_far (p := ⟨gb667, 0, none⟩) (Kd.R_types HO665.out BK667.out (by decide)) (fun _ hk => hk.2) (.slice Ao26 t659.length co26)) (fun _ hk => hk.2) (.string t662)) (fun _ hk => hk.2) (.slice Ao29 t663.length co29)) (fun _ h_ => h_.1))) : P := h
theorem qbv10 {P : Prop} (h : P := by (with_reducible repeat (first | apply Kd.R_alloc | apply Kd.R_drewN | apply Kd.R_drew)); exact (Kd.R_mono (Kd.R_far (p := ⟨gb667, 2, none⟩) (Kd.R_far (p := ⟨gb667, 1, none⟩) (Kd.R_far (p := ⟨gb667, 0, none⟩) (Kd.R_types HO661.out BK667.out (by decide)) (fun _ hk => hk.2) (.slice Ao26 t659.length co26)) (fun _ hk => hk.2) (.string t662)) (fun _ hk => hk.2) (.slice Ao29 t663.length co29)) (fun _ h_ => h_.1))) : P := h
theorem qbv9 {P : Prop} (h : P := by (with_reducible repeat (first | apply Kd.R_alloc | apply Kd.R_drewN | apply Kd.R_drew)); exact (Kd.R_mono (Kd.R_far (p := ⟨gb667, 2, none⟩) (Kd.R_far (p := ⟨gb667, 1, none⟩) (Kd.R_far (p := ⟨gb667, 0, none⟩) (Kd.R_types HO652.out BK667.out (by decide)) (fun _ hk => hk.2) (.slice Ao26 t659.length co26)) (fun _ hk => hk.2) (.string t662)) (fun _ hk => hk.2) (.slice Ao29 t663.length co29)) (fun _ h_ => h_.1))) : P := h
theorem qbv8 {P : Prop} (h : P := by (with_reducible repeat (first | apply Kd.R_alloc | apply Kd.R_drewN | apply Kd.R_drew)); exact (Kd.R_mono (Kd.R_far (p := ⟨gb667, 2, none⟩) (Kd.R_far (p := ⟨gb667, 1, none⟩) (Kd.R_far (p := ⟨gb667, 0, none⟩) (Kd.R_types HO648.out BK667.out (by decide)) (fun _ hk => hk.2) (.slice Ao26 t659.length co26)) (fun _ hk => hk.2) (.string t662)) (fun _ hk => hk.2) (.slice Ao29 t663.length co29)) (fun _ h_ => h_.1))) : P := h
theorem qbv7 {P : Prop} (h : P := by (with_reducible repeat (first | apply Kd.R_alloc | apply Kd.R_drewN | apply Kd.R_drew)); exact (Kd.R_mono (Kd.R_far (p := ⟨gb654, 2, none⟩) (Kd.R_far (p := ⟨gb654, 1, none⟩) (Kd.R_far (p := ⟨gb654, 0, none⟩) (Kd.R_types HO652.out BK654.out (by decide)) (fun _ hk => hk.2) (.slice Ao52 t646.length co52)) (fun _ hk => hk.2) (.string t649)) (fun _ hk => hk.2) (.slice Ao54 t650.length co54)) (fun _ h_ => h_.1))) : P := h
theorem qbv6 {P : Prop} (h : P := by (with_reducible repeat (first | apply Kd.R_alloc | apply Kd.R_drewN | apply Kd.R_drew)); exact (Kd.R_mono (Kd.R_far (p := ⟨gb654, 2, none⟩) (Kd.R_far (p := ⟨gb654, 1, none⟩) (Kd.R_far (p := ⟨gb654, 0, none⟩) (Kd.R_types HO652.out BK654.out (by decide)) (fun _ hk => hk.2) (.slice Ao43 t646.length co43)) (fun _ hk => hk.2) (.string t649)) (fun _ hk => hk.2) (.slice Ao45 t650.length co45)) (fun _ h_ => h_.1))) : P := h
theorem qbv5 {P : Prop} (h : P := by (with_reducible repeat (first | apply Kd.R_alloc | apply Kd.R_drewN | apply Kd.R_drew)); exact (Kd.R_mono (Kd.R_far (p := ⟨gb654, 2, none⟩) (Kd.R_far (p := ⟨gb654, 1, none⟩) (Kd.R_far (p := ⟨gb654, 0, none⟩) (Kd.R_types HO652.out BK654.out (by decide)) (fun _ hk => hk.2) (.slice Ao35 t646.length co35)) (fun _ hk => hk.2) (.string t649)) (fun _ hk => hk.2) (.slice Ao37 t650.length co37)) (fun _ h_ => h_.1))) : P := h
theorem qbv4 {P : Prop} (h : P := by (with_reducible repeat (first | apply Kd.R_alloc | apply Kd.R_drewN | apply Kd.R_drew)); exact (Kd.R_mono (Kd.R_far (p := ⟨gb654, 2, none⟩) (Kd.R_far (p := ⟨gb654, 1, none⟩) (Kd.R_far (p := ⟨gb654, 0, none⟩) (Kd.R_types HO652.out BK654.out (by decide)) (fun _ hk => hk.2) (.slice Ao18 t646.length co18)) (fun _ hk => hk.2) (.string t649)) (fun _ hk => hk.2) (.slice Ao20 t650.length co20)) (fun _ h_ => h_.1))) : P := h
theorem qbv3 {P : Prop} (h : P := by (with_reducible repeat (first | apply Kd.R_alloc | apply Kd.R_drewN | apply Kd.R_drew)); exact (Kd.R_mono (Kd.R_far (p := ⟨gb654, 2, none⟩) (Kd.R_far (p := ⟨gb654, 1, none⟩) (Kd.R_far (p := ⟨gb654, 0, none⟩) (Kd.R_types HO648.out BK654.out (by decide)) (fun _ hk => hk.2) (.slice Ao52 t646.length co52)) (fun _ hk => hk.2) (.string t649)) (fun _ hk => hk.2) (.slice Ao54 t650.length co54)) (fun _ h_ => h_.1))) : P := h
theorem qbv2 {P : Prop} (h : P := by (with_reducible repeat (first | apply Kd.R_alloc | apply Kd.R_drewN | apply Kd.R_drew)); exact (Kd.R_mono (Kd.R_far (p := ⟨gb654, 2, none⟩) (Kd.R_far (p := ⟨gb654, 1, none⟩) (Kd.R_far (p := ⟨gb654, 0, none⟩) (Kd.R_types HO648.out BK654.out (by decide)) (fun _ hk => hk.2) (.slice Ao43 t646.length co43)) (fun _ hk => hk.2) (.string t649)) (fun _ hk => hk.2) (.slice Ao45 t650.length co45)) (fun _ h_ => h_.1))) : P := h
theorem qbv1 {P : Prop} (h : P := by (with_reducible repeat (first | apply Kd.R_alloc | apply Kd.R_drewN | apply Kd.R_drew)); exact (Kd.R_mono (Kd.R_far (p := ⟨gb654, 2, none⟩) (Kd.R_far (p := ⟨gb654, 1, none⟩) (Kd.R_far (p := ⟨gb654, 0, none⟩) (Kd.R_types HO648.out BK654.out (by decide)) (fun _ hk => hk.2) (.slice Ao35 t646.length co35)) (fun _ hk => hk.2) (.string t649)) (fun _ hk => hk.2) (.slice Ao37 t650.length co37)) (fun _ h_ => h_.1))) : P := h
theorem qbv0 {P : Prop} (h : P := by (with_reducible repeat (first | apply Kd.R_alloc | apply Kd.R_drewN | apply Kd.R_drew)); exact (Kd.R_mono (Kd.R_far (p := ⟨gb654, 2, none⟩) (Kd.R_far (p := ⟨gb654, 1, none⟩) (Kd.R_far (p := ⟨gb654, 0, none⟩) (Kd.R_types HO648.out BK654.out (by decide)) (fun _ hk => hk.2) (.slice Ao18 t646.length co18)) (fun _ hk => hk.2) (.string t649)) (fun _ hk => hk.2) (.slice Ao20 t650.length co20)) (fun _ h_ => h_.1))) : P := h
attribute [local go_sem] max2_int min2_int max_two min_two max_three min_three max_four min_four   -- for this text's walks alone
set_option linter.unusedVariables false
set_option linter.unusedSimpArgs false

def quoinlaw17_LineAgain.j0 : Nat → ByteArray → Bool → Bool → Option (Bool)
 | 0, _, _, _ => none
 | k + 1, x0, x3, x17 => if x17 = true then (some x3) else ((line_Read.f x0).bind fun bt646 => (if bt646.2.2.2 = 0 then ((line_Check.f k bt646.1 bt646.2.1 bt646.2.2.1).bind fun t656 => (if t656 = 0 then ((line_Write.f k bt646.1 bt646.2.1 bt646.2.2.1).bind fun bt657 => (if bt657.2 = 0 then ((line_Read.f bt657.1).bind fun bt659 => (if bt659.2.2.2 = 0 then ((line_Same.f k bt659.1 bt659.2.1 bt659.2.2.1 bt646.1 bt646.2.1 bt646.2.2.1).bind fun t668 => (some t668)) else (none))) else (if bt657.2 = 3 then (some true) else (some (bt657.2 == 4))))) else (none))) else ((line_Same.f k bt646.1 bt646.2.1 bt646.2.2.1 ([] : List ByteArray) (⟨#[]⟩ : ByteArray) ([] : List (S40))).bind fun t655 => (some t655))))
def quoinlaw17_LineAgain.f (k : Nat) (a0 : ByteArray) : Option (Bool) := (quoinlaw17_alive.f k).bind fun t645 => (if (a0.size : Int) > 5000 then (quoinlaw17_LineAgain.j0 k a0 t645 true) else (quoinlaw17_LineAgain.j0 k a0 t645 (!t645)))
set_option maxHeartbeats 8000000 in
set_option maxRecDepth 100000 in
theorem quoinlaw17_LineAgain.calls (k : Nat) (a0 : ByteArray) (r : Bool) (w : World) (hT : Lib.TabIs Tryz.prog w "internal/strconv.uint64pow10" .u64 Lib.pow10Tab) (hD : LexW.LexD w) (hE : LexW.LexE w) (hM : ExW.ModsAt w) (hG : LiW.RegsAt w) (h : quoinlaw17_LineAgain.f k a0 = some r) :
  Calls Tryz.prog 6 #[.string a0] w fun e w' => e = .returned (.bool r) ∧ Below w.heap.size w w' := by
 have hu25 := Tryz.underlying25
 have HT := Aside0.mk hT
 clear hT
 have HD_ := Aside0.mk hD
 clear hD
 have HE_ := Aside0.mk hE
 clear hE
 have HM_ := Aside0.mk hM
 clear hM
 have HG_ := Aside0.mk hG
 clear hG
 have HB := Aside0.mk (Below.refl w.heap.size w)
 have H : ((quoinlaw17_alive.f k).bind fun t645 => (if (a0.size : Int) > 5000 then (quoinlaw17_LineAgain.j0 k a0 t645 true) else (quoinlaw17_LineAgain.j0 k a0 t645 (!t645)))) = some r := h
 clear h
 replace H := Option.bind_eq_some_iff.mp H
 obtain ⟨t645, A20, H⟩ := H
 replace H : (if (a0.size : Int) > 5000 then (quoinlaw17_LineAgain.j0 k a0 t645 true) else (quoinlaw17_LineAgain.j0 k a0 t645 (!t645))) = some r := H
 have A2 := Aside0.mk A20
 clear A20
 have HC3 := Aside0.mk H
 clear H
 go_enter Tryz.func6, Tryz.ntmps6
 go_upto_region 2 with (first | ((with_reducible refine gate_callee (f := 17) rfl ?_); refine goesL_ (some 10) rfl rfl Tryz.func17 (by kernel_rfl) rfl #[] rfl qbv25 ?_; (with_reducible refine (quoinlaw17_alive.calls k  t645 _ ?side1 ?side2 ?side3 ?side4 ?side5 A2.out).mono ?_); (case side1 => exact qbv17); (case side2 => exact qbv21); (case side3 => exact qbv22); (case side4 => exact qbv24); (case side5 => exact qbv23); rintro e w4 ⟨rfl, hb⟩; refine ⟨_, rfl, ?_⟩; have n0_ := Aside0.mk (below_step qbv26 hb); clear HB; have HB := n0_; clear n0_; (try clear hb); (try clear hb2); (try clear hk); (try clear hi)))
 (try simp only [Act.put, List.setIfInBounds_toArray, List.set_cons_zero, List.set_cons_succ])
 go_cut [17] (fun v17 wc => ∃ (kq : Nat) (x17_2 : Bool), v17 = .bool x17_2 ∧ Aside0 (quoinlaw17_LineAgain.j0 kq a0 t645 x17_2 = some r) ∧ Aside0 (kq ≤ k) ∧ Aside0 (Below w.heap.size w wc))
 case first =>
  have H := HC3.out
  clear HC3
  by_cases c5 : (a0.size : Int) > 5000
  ·
   rw [if_pos c5] at H
   have c5b0 : decide (5000 < (a0.size : Int)) = true := decide_eq_true c5
   have c5b1 : decide (5000 < a0.size) = true := decide_eq_true (by omega)
   clear c5
   (first | rw [c5b0] | (simp only [i64_w, i32_w]; rw [c5b0]) | skip)
   have H' := Aside0.mk H
   clear H
   go_wp2
   go_meet
   case rel => exact ⟨_, (true), (by first | rfl | (simp; done) | (simp [*]; done)), H', ⟨by first | omega | exact Nat.le_refl _⟩, ⟨by repeat (first | (with_reducible first | exact HB.out | apply below_alloc | apply pw_below_drewN | apply below_drew1) | exact HB.out)⟩⟩
  ·
   rw [if_neg c5] at H
   have c5b0 : decide (5000 < (a0.size : Int)) = false := decide_eq_false c5
   have c5b1 : decide (5000 < a0.size) = false := decide_eq_false (by omega)
   clear c5
   (first | rw [c5b0] | (simp only [i64_w, i32_w]; rw [c5b0]) | skip)
   have H' := Aside0.mk H
   clear H
   go_wp2
   go_meet
   case rel => exact ⟨_, (!t645), (by first | rfl | (simp; done) | (simp [*]; done)), H', ⟨by first | omega | exact Nat.le_refl _⟩, ⟨by repeat (first | (with_reducible first | exact HB.out | apply below_alloc | apply pw_below_drewN | apply below_drew1) | exact HB.out)⟩⟩
 case rest =>
  clear HC3
  try clear c1
  try clear p2
  try clear c5
  try clear c5b0
  try clear c5b1
  obtain ⟨kq, x17_2, rfl, HA, HJ2, HB⟩ := hcut
  cases kq with
  | zero => exact absurd HA.out (by simp [quoinlaw17_LineAgain.j0])
  | succ kj2 =>
   have H := HA.out
   clear HA
   simp only [quoinlaw17_LineAgain.j0] at H
   by_cases c6 : x17_2 = true
   ·
    subst c6
    have H1 : (some t645) = some r := by rw [if_pos rfl] at H; exact H
    clear H
    have H := H1
    clear H1
    obtain rfl := Option.some.inj H
    go_wp2
    go_ret
    exact ⟨by first | rfl | (simp [errW_none, errW_some] <;> rfl) | (simp [*, errW_none, errW_some] <;> rfl), by repeat (first | (with_reducible first | exact HB.out | apply below_alloc | apply pw_below_drewN | apply below_drew1) | exact HB.out)⟩
   ·
    replace c6 := Bool.eq_false_iff.mpr c6
    subst c6
    have H1 : ((line_Read.f a0).bind fun bt646 => (if bt646.2.2.2 = 0 then ((line_Check.f kj2 bt646.1 bt646.2.1 bt646.2.2.1).bind fun t656 => (if t656 = 0 then ((line_Write.f kj2 bt646.1 bt646.2.1 bt646.2.2.1).bind fun bt657 => (if bt657.2 = 0 then ((line_Read.f bt657.1).bind fun bt659 => (if bt659.2.2.2 = 0 then ((line_Same.f kj2 bt659.1 bt659.2.1 bt659.2.2.1 bt646.1 bt646.2.1 bt646.2.2.1).bind fun t668 => (some t668)) else (none))) else (if bt657.2 = 3 then (some true) else (some (bt657.2 == 4))))) else (none))) else ((line_Same.f kj2 bt646.1 bt646.2.1 bt646.2.2.1 ([] : List ByteArray) (⟨#[]⟩ : ByteArray) ([] : List (S40))).bind fun t655 => (some t655)))) = some r := by rw [if_neg (show ¬ (false = true) by decide)] at H; exact H
    clear H
    have H := H1
    clear H1
    replace H := Option.bind_eq_some_iff.mp H
    obtain ⟨⟨t646, t649, t650, t653⟩, A70, H⟩ := H
    replace H : (if t653 = 0 then ((line_Check.f kj2 t646 t649 t650).bind fun t656 => (if t656 = 0 then ((line_Write.f kj2 t646 t649 t650).bind fun bt657 => (if bt657.2 = 0 then ((line_Read.f bt657.1).bind fun bt659 => (if bt659.2.2.2 = 0 then ((line_Same.f kj2 bt659.1 bt659.2.1 bt659.2.2.1 t646 t649 t650).bind fun t668 => (some t668)) else (none))) else (if bt657.2 = 3 then (some true) else (some (bt657.2 == 4))))) else (none))) else ((line_Same.f kj2 t646 t649 t650 ([] : List ByteArray) (⟨#[]⟩ : ByteArray) ([] : List (S40))).bind fun t655 => (some t655))) = some r := H
    have A7 := Aside0.mk A70
    clear A70
    by_cases c8 : t653 = 0
    ·
     rw [if_pos c8] at H
     have c8b0 : (t653 == 0) = true := beq_iff_eq.mpr c8
     have c8b1 : (t653 != 0) = false := bne_eq_false_iff_eq.mpr c8
     clear c8
     replace H := Option.bind_eq_some_iff.mp H
     obtain ⟨t656, A90, H⟩ := H
     replace H : (if t656 = 0 then ((line_Write.f kj2 t646 t649 t650).bind fun bt657 => (if bt657.2 = 0 then ((line_Read.f bt657.1).bind fun bt659 => (if bt659.2.2.2 = 0 then ((line_Same.f kj2 bt659.1 bt659.2.1 bt659.2.2.1 t646 t649 t650).bind fun t668 => (some t668)) else (none))) else (if bt657.2 = 3 then (some true) else (some (bt657.2 == 4))))) else (none)) = some r := H
     have A9 := Aside0.mk A90
     clear A90
     by_cases c10 : t656 = 0
     ·
      rw [if_pos c10] at H
      have c10b0 : (t656 == 0) = true := beq_iff_eq.mpr c10
      have c10b1 : (t656 != 0) = false := bne_eq_false_iff_eq.mpr c10
      clear c10
      replace H := Option.bind_eq_some_iff.mp H
      obtain ⟨⟨t657, t658⟩, A110, H⟩ := H
      replace H : (if t658 = 0 then ((line_Read.f t657).bind fun bt659 => (if bt659.2.2.2 = 0 then ((line_Same.f kj2 bt659.1 bt659.2.1 bt659.2.2.1 t646 t649 t650).bind fun t668 => (some t668)) else (none))) else (if t658 = 3 then (some true) else (some (t658 == 4)))) = some r := H
      have A11 := Aside0.mk A110
      clear A110
      by_cases c12 : t658 = 0
      ·
       rw [if_pos c12] at H
       have c12b0 : (t658 == 0) = true := beq_iff_eq.mpr c12
       have c12b1 : (t658 != 0) = false := bne_eq_false_iff_eq.mpr c12
       clear c12
       replace H := Option.bind_eq_some_iff.mp H
       obtain ⟨⟨t659, t662, t663, t666⟩, A130, H⟩ := H
       replace H : (if t666 = 0 then ((line_Same.f kj2 t659 t662 t663 t646 t649 t650).bind fun t668 => (some t668)) else (none)) = some r := H
       have A13 := Aside0.mk A130
       clear A130
       by_cases c14 : t666 = 0
       ·
        rw [if_pos c14] at H
        have c14b0 : (t666 == 0) = true := beq_iff_eq.mpr c14
        have c14b1 : (t666 != 0) = false := bne_eq_false_iff_eq.mpr c14
        clear c14
        replace H := Option.bind_eq_some_iff.mp H
        obtain ⟨t668, A150, H⟩ := H
        replace H : (some t668) = some r := H
        have A15 := Aside0.mk A150
        clear A150
        obtain rfl := Option.some.inj H
        go_wp2_with (first | ((with_reducible refine gate_callee (f := 18) rfl ?_); refine goesL_ (some 21) rfl rfl Tryz.func18 (by kernel_rfl) rfl #[.string a0] rfl qbv25 ?_; (with_reducible refine (line_Read.calls a0 t646 t649 t650 t653 _ ?side1 ?side2 ?side3 ?side4 ?side5 A7.out).mono ?_); (case side1 => exact qbv17); (case side2 => exact qbv21); (case side3 => exact qbv22); (case side4 => exact qbv24); (case side5 => exact qbv23); rintro e w16 ⟨v647, v651, rfl, ho0, ho1, hb⟩; refine ⟨_, rfl, ?_⟩; have n0_ := Aside0.mk (Kd.R_lower ho0 (below_size qbv26)); have n1_ := Aside0.mk (Kd.R_lower ho1 (below_size qbv26)); have n2_ := Aside0.mk (below_step qbv26 hb); clear HB; have HO648 := n0_; have HO652 := n1_; have HB := n2_; clear n0_ n1_ n2_; (try clear hb); (try clear hb2); (try clear hk); (try clear hi); (try clear ho0); (try clear ho1)) | ((with_reducible refine gate_dst (N := 4) rfl ?_); refine box_event ?hg (N := 4) ?hd (cs := #[.slice none 0 0, .string (⟨#[]⟩ : ByteArray), .slice none 0 0]) (t := 25) ?hr ?_; (case hd => rfl); (case hg => rfl); (case hr => exact qbv30); intro gb654 hg w17 hbox hb; have n0_ := Aside0.mk (Kd.R_below qbv28 hb); have n1_ := Aside0.mk (Kd.R_below qbv29 hb); have n2_ := Aside0.mk (below_step qbv26 hb); have n3_ := Aside0.mk (hbox); have n4_ := Aside0.mk ((by rw [hg]; exact (below_size qbv26) : w.heap.size ≤ gb654)); have n5_ := Aside0.mk ((by rw [hg]; exact (below_size qbv26) : w.heap.size ≤ gb654)); clear HO648; clear HO652; clear HB; have HO648 := n0_; have HO652 := n1_; have HB := n2_; have BK654 := n3_; have GW654 := n4_; have GE654 := n5_; clear n0_ n1_ n2_ n3_ n4_ n5_; clear hb hbox hg; obtain ⟨Ao18, co18, eo18⟩ := Kd.R_slice HO648.out; subst eo18; have hcz19_0 := bc0 BK654.out; have hcz19_1 := bc1 BK654.out; have hcz19_2 := bc2 BK654.out; have hfz19_0 := blk_frozen BK654.out 0; have hfz19_1 := blk_frozen BK654.out 1; have hfz19_2 := blk_frozen BK654.out 2; obtain ⟨Ao20, co20, eo20⟩ := Kd.R_slice HO652.out; subst eo20) | ((with_reducible refine gate_callee (f := 11) rfl ?_); refine goesL_ (some 30) rfl rfl Tryz.func11 (by kernel_rfl) rfl #[.agg #[.slice Ao18 t646.length co18, .string t649, .slice Ao20 t650.length co20]] rfl qbv25 ?_; (with_reducible refine (line_Check.calls kj2 _ _ t646 t649 _ _ t650 t656 _ ?side1 ?side2 ?side3 ?side4 ?side5 ?side6 ?side7 ?side8 ?side9 A9.out).mono ?_); (case side1 => refine (Kd.R_reads' (e := 9) (base := w.heap.size) (ok := fun k_ => True) (n := t646.length) (c := co18) ?_).2.2; exact qbv0); (case side2 => exact qbv31); (case side3 => refine (Kd.R_reads' (e := 40) (base := w.heap.size) (ok := fun k_ => True) (n := t650.length) (c := co20) ?_).2.2; exact qbv4); (case side4 => exact qbv32); (case side5 => exact qbv12); (case side6 => exact qbv13); (case side7 => exact qbv14); (case side8 => exact qbv16); (case side9 => exact qbv15); rintro e w21 ⟨rfl, hb⟩; refine ⟨_, rfl, ?_⟩; have n0_ := Aside0.mk (Kd.R_below qbv0 hb); have n1_ := Aside0.mk (Kd.R_below qbv4 hb); have n2_ := Aside0.mk (blk_below (g := gb654) (o := .cells #[.slice Ao18 t646.length co18, .string t649, .slice Ao20 t650.length co20] 25 (0, 0)) (by (with_reducible repeat (first | refine blk_drewN ?_ _ | refine blk_drew ?_ | refine blk_alloc ?_ _)); refine blk_put (cs := #[.slice Ao18 t646.length co18, .string t649, .slice none 0 0]) ?_ 2 _ rfl; (with_reducible repeat (first | refine blk_drewN ?_ _ | refine blk_drew ?_ | refine blk_alloc ?_ _)); refine blk_put (cs := #[.slice Ao18 t646.length co18, .string (⟨#[]⟩ : ByteArray), .slice none 0 0]) ?_ 1 _ rfl; (with_reducible repeat (first | refine blk_drewN ?_ _ | refine blk_drew ?_ | refine blk_alloc ?_ _)); refine blk_put (cs := #[.slice none 0 0, .string (⟨#[]⟩ : ByteArray), .slice none 0 0]) ?_ 0 _ rfl; (with_reducible repeat (first | refine blk_drewN ?_ _ | refine blk_drew ?_ | refine blk_alloc ?_ _)); exact BK654.out) hb); have n3_ := Aside0.mk (below_step qbv20 hb); clear HO648; clear HO652; clear BK654; clear HB; have HO648 := n0_; have HO652 := n1_; have BK654 := n2_; have HB := n3_; clear n0_ n1_ n2_ n3_; (try clear hb); (try clear hb2); (try clear hk); (try clear hi); have hcz22_0 := bc0 BK654.out; have hcz22_1 := bc1 BK654.out; have hcz22_2 := bc2 BK654.out; have hfz22_0 := blk_frozen BK654.out 0; have hfz22_1 := blk_frozen BK654.out 1; have hfz22_2 := blk_frozen BK654.out 2) | ((with_reducible refine gate_callee (f := 9) rfl ?_); refine goesL_ (some 34) rfl rfl Tryz.func9 (by kernel_rfl) rfl #[.agg #[.slice Ao18 t646.length co18, .string t649, .slice Ao20 t650.length co20]] rfl qbv25 ?_; (with_reducible refine (line_Write.calls kj2 _ _ t646 t649 _ _ t650 t657 t658 _ ?side1 ?side2 ?side3 ?side4 ?side5 ?side6 ?side7 ?side8 ?side9 A11.out).mono ?_); (case side1 => exact qbv18); (case side2 => exact qbv31); (case side3 => exact qbv19); (case side4 => exact qbv32); (case side5 => exact qbv12); (case side6 => exact qbv13); (case side7 => exact qbv14); (case side8 => exact qbv16); (case side9 => exact qbv15); rintro e w23 ⟨rfl, hb⟩; refine ⟨_, rfl, ?_⟩; have n0_ := Aside0.mk (Kd.R_below qbv28 hb); have n1_ := Aside0.mk (Kd.R_below qbv29 hb); have n2_ := Aside0.mk (blk_below (g := gb654) (o := .cells #[.slice Ao18 t646.length co18, .string t649, .slice Ao20 t650.length co20] 25 (0, 0)) qbv27 hb); have n3_ := Aside0.mk (below_step qbv20 hb); clear HO648; clear HO652; clear BK654; clear HB; have HO648 := n0_; have HO652 := n1_; have BK654 := n2_; have HB := n3_; clear n0_ n1_ n2_ n3_; (try clear hb); (try clear hb2); (try clear hk); (try clear hi)) | ((with_reducible refine gate_callee (f := 18) rfl ?_); refine goesL_ (some 47) rfl rfl Tryz.func18 (by kernel_rfl) rfl #[.string t657] rfl qbv25 ?_; (with_reducible refine (line_Read.calls t657 t659 t662 t663 t666 _ ?side1 ?side2 ?side3 ?side4 ?side5 A13.out).mono ?_); (case side1 => exact qbv12); (case side2 => exact qbv13); (case side3 => exact qbv14); (case side4 => exact qbv16); (case side5 => exact qbv15); rintro e w24 ⟨v660, v664, rfl, ho0, ho1, hb⟩; refine ⟨_, rfl, ?_⟩; have n0_ := Aside0.mk (Kd.R_elder' qbv28 (Kd.R_base ho0) hb); have n1_ := Aside0.mk (Kd.R_elder' qbv29 (Kd.R_base ho1) hb); have n2_ := Aside0.mk (Kd.R_lower (Kd.R_new' ho0 (Kd.R_lt qbv28)) (below_size qbv20)); have n3_ := Aside0.mk (Kd.R_lower (Kd.R_new' ho1 (Kd.R_lt qbv29)) (below_size qbv20)); have n4_ := Aside0.mk (blk_below (g := gb654) (o := .cells #[.slice Ao18 t646.length co18, .string t649, .slice Ao20 t650.length co20] 25 (0, 0)) qbv27 hb); have n5_ := Aside0.mk (below_step qbv20 hb); clear HO648; clear HO652; clear BK654; clear HB; have HO648 := n0_; have HO652 := n1_; have HO661 := n2_; have HO665 := n3_; have BK654 := n4_; have HB := n5_; clear n0_ n1_ n2_ n3_ n4_ n5_; (try clear hb); (try clear hb2); (try clear hk); (try clear hi); (try clear ho0); (try clear ho1)) | ((with_reducible refine gate_dst (N := 8) rfl ?_); refine box_event ?hg (N := 8) ?hd (cs := #[.slice none 0 0, .string (⟨#[]⟩ : ByteArray), .slice none 0 0]) (t := 25) ?hr ?_; (case hd => rfl); (case hg => rfl); (case hr => exact qbv30); intro gb667 hg w25 hbox hb; have n0_ := Aside0.mk (Kd.R_below qbv28 hb); have n1_ := Aside0.mk (Kd.R_below qbv29 hb); have n2_ := Aside0.mk (Kd.R_below (by (with_reducible repeat (first | apply Kd.R_alloc | apply Kd.R_drewN | apply Kd.R_drew)); exact HO661.out) hb); have n3_ := Aside0.mk (Kd.R_below (by (with_reducible repeat (first | apply Kd.R_alloc | apply Kd.R_drewN | apply Kd.R_drew)); exact HO665.out) hb); have n4_ := Aside0.mk (blk_below (g := gb654) (o := .cells #[.slice Ao18 t646.length co18, .string t649, .slice Ao20 t650.length co20] 25 (0, 0)) qbv27 hb); have n5_ := Aside0.mk (below_step qbv20 hb); have n6_ := Aside0.mk (hbox); have n7_ := Aside0.mk ((by rw [hg]; exact (below_size qbv20) : w.heap.size ≤ gb667)); have n8_ := Aside0.mk ((by rw [hg]; exact (below_size qbv20) : w.heap.size ≤ gb667)); have n9_ := Aside0.mk ((by rw [hg]; exact Nat.ne_of_lt (blk_lt (g := gb654) (o := .cells #[.slice Ao18 t646.length co18, .string t649, .slice Ao20 t650.length co20] 25 (0, 0)) qbv27) : gb654 ≠ gb667)); have n10_ := Aside0.mk ((by rw [hg]; exact Nat.ne_of_gt (blk_lt (g := gb654) (o := .cells #[.slice Ao18 t646.length co18, .string t649, .slice Ao20 t650.length co20] 25 (0, 0)) qbv27) : gb667 ≠ gb654)); clear HO648; clear HO652; clear HO661; clear HO665; clear BK654; clear HB; have HO648 := n0_; have HO652 := n1_; have HO661 := n2_; have HO665 := n3_; have BK654 := n4_; have HB := n5_; have BK667 := n6_; have GW667 := n7_; have GE667 := n8_; have NB654_667 := n9_; have NB667_654 := n10_; clear n0_ n1_ n2_ n3_ n4_ n5_ n6_ n7_ n8_ n9_ n10_; clear hb hbox hg; obtain ⟨Ao26, co26, eo26⟩ := Kd.R_slice HO661.out; subst eo26; have hnb27 := NB667_654.out; have hnc27 := NB654_667.out; have hcz28_0 := bc0 BK667.out; have hcz28_1 := bc1 BK667.out; have hcz28_2 := bc2 BK667.out; have hfz28_0 := blk_frozen BK667.out 0; have hfz28_1 := blk_frozen BK667.out 1; have hfz28_2 := blk_frozen BK667.out 2; obtain ⟨Ao29, co29, eo29⟩ := Kd.R_slice HO665.out; subst eo29; have hcz30_0 := bc0 BK654.out; have hcz30_1 := bc1 BK654.out; have hcz30_2 := bc2 BK654.out; have hfz30_0 := blk_frozen BK654.out 0; have hfz30_1 := blk_frozen BK654.out 1; have hfz30_2 := blk_frozen BK654.out 2) | (go_at_call 13; (with_reducible refine (line_Same.calls kj2 _ _ t659 t662 _ _ t663 _ _ t646 t649 _ _ t650 t668 _ ?side1 ?side2 ?side3 ?side4 ?side5 ?side6 ?side7 ?side8 A15.out).mono ?_); (case side1 => refine (Kd.R_reads' (e := 9) (base := w.heap.size) (ok := fun k_ => (True ∧ some k_ ≠ (.slice Ao18 t646.length co18 : Value).ownBlock)) (n := t659.length) (c := co26) ?_).2.2; exact qbv10); (case side2 => exact (Kd.R_reads' HO661.out).2.1); (case side3 => refine (Kd.R_reads' (e := 40) (base := w.heap.size) (ok := fun k_ => (True ∧ some k_ ≠ (.slice Ao20 t650.length co20 : Value).ownBlock)) (n := t663.length) (c := co29) ?_).2.2; exact qbv11); (case side4 => exact (Kd.R_reads' HO665.out).2.1); (case side5 => refine (Kd.R_reads' (e := 9) (base := w.heap.size) (ok := fun k_ => (True ∧ some k_ ≠ (.slice Ao26 t659.length co26 : Value).ownBlock)) (n := t646.length) (c := co18) ?_).2.2; exact qbv8); (case side6 => exact qbv31); (case side7 => refine (Kd.R_reads' (e := 40) (base := w.heap.size) (ok := fun k_ => (True ∧ some k_ ≠ (.slice Ao29 t663.length co29 : Value).ownBlock)) (n := t650.length) (c := co20) ?_).2.2; exact qbv9); (case side8 => exact qbv32); rintro e w31 ⟨rfl, hb⟩; have n0_ := Aside0.mk (Kd.R_below qbv8 hb); have n1_ := Aside0.mk (Kd.R_below qbv9 hb); have n2_ := Aside0.mk (Kd.R_below qbv10 hb); have n3_ := Aside0.mk (Kd.R_below qbv11 hb); have n4_ := Aside0.mk (blk_below (g := gb654) (o := .cells #[.slice Ao18 t646.length co18, .string t649, .slice Ao20 t650.length co20] 25 (0, 0)) (by (with_reducible repeat (first | refine blk_drewN ?_ _ | refine blk_drew ?_ | refine blk_alloc ?_ _)); refine blk_far ?_ NB654_667.out _; (with_reducible repeat (first | refine blk_drewN ?_ _ | refine blk_drew ?_ | refine blk_alloc ?_ _)); refine blk_far ?_ NB654_667.out _; (with_reducible repeat (first | refine blk_drewN ?_ _ | refine blk_drew ?_ | refine blk_alloc ?_ _)); refine blk_far ?_ NB654_667.out _; (with_reducible repeat (first | refine blk_drewN ?_ _ | refine blk_drew ?_ | refine blk_alloc ?_ _)); exact BK654.out) hb); have n5_ := Aside0.mk (blk_below (g := gb667) (o := .cells #[.slice Ao26 t659.length co26, .string t662, .slice Ao29 t663.length co29] 25 (0, 0)) (by (with_reducible repeat (first | refine blk_drewN ?_ _ | refine blk_drew ?_ | refine blk_alloc ?_ _)); refine blk_put (cs := #[.slice Ao26 t659.length co26, .string t662, .slice none 0 0]) ?_ 2 _ rfl; (with_reducible repeat (first | refine blk_drewN ?_ _ | refine blk_drew ?_ | refine blk_alloc ?_ _)); refine blk_put (cs := #[.slice Ao26 t659.length co26, .string (⟨#[]⟩ : ByteArray), .slice none 0 0]) ?_ 1 _ rfl; (with_reducible repeat (first | refine blk_drewN ?_ _ | refine blk_drew ?_ | refine blk_alloc ?_ _)); refine blk_put (cs := #[.slice none 0 0, .string (⟨#[]⟩ : ByteArray), .slice none 0 0]) ?_ 0 _ rfl; (with_reducible repeat (first | refine blk_drewN ?_ _ | refine blk_drew ?_ | refine blk_alloc ?_ _)); exact BK667.out) hb); have n6_ := Aside0.mk (below_step (by repeat (first | (with_reducible first | exact HB.out | apply below_alloc | apply pw_below_drewN | apply below_drew1 | refine below_set ?_ GE654.out | refine below_set ?_ GE667.out) | exact HB.out)) hb); clear HO648; clear HO652; clear HO661; clear HO665; clear BK654; clear BK667; clear HB; have HO648 := n0_; have HO652 := n1_; have HO661 := n2_; have HO665 := n3_; have BK654 := n4_; have BK667 := n5_; have HB := n6_; clear n0_ n1_ n2_ n3_ n4_ n5_ n6_; (try clear hb); (try clear hb2); (try clear hk); (try clear hi)))
        go_ret
        exact ⟨by first | rfl | (simp [errW_none, errW_some] <;> rfl) | (simp [*, errW_none, errW_some] <;> rfl), by repeat (first | (with_reducible first | exact HB.out | apply below_alloc | apply pw_below_drewN | apply below_drew1 | refine below_set ?_ GE654.out | refine below_set ?_ GE667.out) | exact HB.out)⟩
       ·
        rw [if_neg c14] at H
        exact absurd H (by simp)
      ·
       rw [if_neg c12] at H
       have c12b0 : (t658 == 0) = false := beq_eq_false_iff_ne.mpr c12
       have c12b1 : (t658 != 0) = true := bne_iff_ne.mpr c12
       by_cases c32 : t658 = 3
       ·
        rw [if_pos c32] at H
        have c32b0 : (t658 == 3) = true := beq_iff_eq.mpr c32
        have c32b1 : (t658 != 3) = false := bne_eq_false_iff_eq.mpr c32
        clear c32
        obtain rfl := Option.some.inj H
        go_wp2_with (first | ((with_reducible refine gate_callee (f := 18) rfl ?_); refine goesL_ (some 21) rfl rfl Tryz.func18 (by kernel_rfl) rfl #[.string a0] rfl qbv25 ?_; (with_reducible refine (line_Read.calls a0 t646 t649 t650 t653 _ ?side1 ?side2 ?side3 ?side4 ?side5 A7.out).mono ?_); (case side1 => exact qbv17); (case side2 => exact qbv21); (case side3 => exact qbv22); (case side4 => exact qbv24); (case side5 => exact qbv23); rintro e w33 ⟨v647, v651, rfl, ho0, ho1, hb⟩; refine ⟨_, rfl, ?_⟩; have n0_ := Aside0.mk (Kd.R_lower ho0 (below_size qbv26)); have n1_ := Aside0.mk (Kd.R_lower ho1 (below_size qbv26)); have n2_ := Aside0.mk (below_step qbv26 hb); clear HB; have HO648 := n0_; have HO652 := n1_; have HB := n2_; clear n0_ n1_ n2_; (try clear hb); (try clear hb2); (try clear hk); (try clear hi); (try clear ho0); (try clear ho1)) | ((with_reducible refine gate_dst (N := 4) rfl ?_); refine box_event ?hg (N := 4) ?hd (cs := #[.slice none 0 0, .string (⟨#[]⟩ : ByteArray), .slice none 0 0]) (t := 25) ?hr ?_; (case hd => rfl); (case hg => rfl); (case hr => exact qbv30); intro gb654 hg w34 hbox hb; have n0_ := Aside0.mk (Kd.R_below qbv28 hb); have n1_ := Aside0.mk (Kd.R_below qbv29 hb); have n2_ := Aside0.mk (below_step qbv26 hb); have n3_ := Aside0.mk (hbox); have n4_ := Aside0.mk ((by rw [hg]; exact (below_size qbv26) : w.heap.size ≤ gb654)); have n5_ := Aside0.mk ((by rw [hg]; exact (below_size qbv26) : w.heap.size ≤ gb654)); clear HO648; clear HO652; clear HB; have HO648 := n0_; have HO652 := n1_; have HB := n2_; have BK654 := n3_; have GW654 := n4_; have GE654 := n5_; clear n0_ n1_ n2_ n3_ n4_ n5_; clear hb hbox hg; obtain ⟨Ao35, co35, eo35⟩ := Kd.R_slice HO648.out; subst eo35; have hcz36_0 := bc0 BK654.out; have hcz36_1 := bc1 BK654.out; have hcz36_2 := bc2 BK654.out; have hfz36_0 := blk_frozen BK654.out 0; have hfz36_1 := blk_frozen BK654.out 1; have hfz36_2 := blk_frozen BK654.out 2; obtain ⟨Ao37, co37, eo37⟩ := Kd.R_slice HO652.out; subst eo37) | ((with_reducible refine gate_callee (f := 11) rfl ?_); refine goesL_ (some 30) rfl rfl Tryz.func11 (by kernel_rfl) rfl #[.agg #[.slice Ao35 t646.length co35, .string t649, .slice Ao37 t650.length co37]] rfl qbv25 ?_; (with_reducible refine (line_Check.calls kj2 _ _ t646 t649 _ _ t650 t656 _ ?side1 ?side2 ?side3 ?side4 ?side5 ?side6 ?side7 ?side8 ?side9 A9.out).mono ?_); (case side1 => refine (Kd.R_reads' (e := 9) (base := w.heap.size) (ok := fun k_ => True) (n := t646.length) (c := co35) ?_).2.2; exact qbv1); (case side2 => exact qbv31); (case side3 => refine (Kd.R_reads' (e := 40) (base := w.heap.size) (ok := fun k_ => True) (n := t650.length) (c := co37) ?_).2.2; exact qbv5); (case side4 => exact qbv32); (case side5 => exact qbv12); (case side6 => exact qbv13); (case side7 => exact qbv14); (case side8 => exact qbv16); (case side9 => exact qbv15); rintro e w38 ⟨rfl, hb⟩; refine ⟨_, rfl, ?_⟩; have n0_ := Aside0.mk (Kd.R_below qbv1 hb); have n1_ := Aside0.mk (Kd.R_below qbv5 hb); have n2_ := Aside0.mk (blk_below (g := gb654) (o := .cells #[.slice Ao35 t646.length co35, .string t649, .slice Ao37 t650.length co37] 25 (0, 0)) (by (with_reducible repeat (first | refine blk_drewN ?_ _ | refine blk_drew ?_ | refine blk_alloc ?_ _)); refine blk_put (cs := #[.slice Ao35 t646.length co35, .string t649, .slice none 0 0]) ?_ 2 _ rfl; (with_reducible repeat (first | refine blk_drewN ?_ _ | refine blk_drew ?_ | refine blk_alloc ?_ _)); refine blk_put (cs := #[.slice Ao35 t646.length co35, .string (⟨#[]⟩ : ByteArray), .slice none 0 0]) ?_ 1 _ rfl; (with_reducible repeat (first | refine blk_drewN ?_ _ | refine blk_drew ?_ | refine blk_alloc ?_ _)); refine blk_put (cs := #[.slice none 0 0, .string (⟨#[]⟩ : ByteArray), .slice none 0 0]) ?_ 0 _ rfl; (with_reducible repeat (first | refine blk_drewN ?_ _ | refine blk_drew ?_ | refine blk_alloc ?_ _)); exact BK654.out) hb); have n3_ := Aside0.mk (below_step qbv20 hb); clear HO648; clear HO652; clear BK654; clear HB; have HO648 := n0_; have HO652 := n1_; have BK654 := n2_; have HB := n3_; clear n0_ n1_ n2_ n3_; (try clear hb); (try clear hb2); (try clear hk); (try clear hi); have hcz39_0 := bc0 BK654.out; have hcz39_1 := bc1 BK654.out; have hcz39_2 := bc2 BK654.out; have hfz39_0 := blk_frozen BK654.out 0; have hfz39_1 := blk_frozen BK654.out 1; have hfz39_2 := blk_frozen BK654.out 2) | ((with_reducible refine gate_callee (f := 9) rfl ?_); refine goesL_ (some 34) rfl rfl Tryz.func9 (by kernel_rfl) rfl #[.agg #[.slice Ao35 t646.length co35, .string t649, .slice Ao37 t650.length co37]] rfl qbv25 ?_; (with_reducible refine (line_Write.calls kj2 _ _ t646 t649 _ _ t650 t657 t658 _ ?side1 ?side2 ?side3 ?side4 ?side5 ?side6 ?side7 ?side8 ?side9 A11.out).mono ?_); (case side1 => exact qbv18); (case side2 => exact qbv31); (case side3 => exact qbv19); (case side4 => exact qbv32); (case side5 => exact qbv12); (case side6 => exact qbv13); (case side7 => exact qbv14); (case side8 => exact qbv16); (case side9 => exact qbv15); rintro e w40 ⟨rfl, hb⟩; refine ⟨_, rfl, ?_⟩; have n0_ := Aside0.mk (Kd.R_below qbv28 hb); have n1_ := Aside0.mk (Kd.R_below qbv29 hb); have n2_ := Aside0.mk (blk_below (g := gb654) (o := .cells #[.slice Ao35 t646.length co35, .string t649, .slice Ao37 t650.length co37] 25 (0, 0)) qbv27 hb); have n3_ := Aside0.mk (below_step qbv20 hb); clear HO648; clear HO652; clear BK654; clear HB; have HO648 := n0_; have HO652 := n1_; have BK654 := n2_; have HB := n3_; clear n0_ n1_ n2_ n3_; (try clear hb); (try clear hb2); (try clear hk); (try clear hi)))
        go_ret
        exact ⟨by first | rfl | (simp [errW_none, errW_some] <;> rfl) | (simp [*, errW_none, errW_some] <;> rfl), by repeat (first | (with_reducible first | exact HB.out | apply below_alloc | apply pw_below_drewN | apply below_drew1 | refine below_set ?_ GE654.out) | exact HB.out)⟩
       ·
        rw [if_neg c32] at H
        have c32b0 : (t658 == 3) = false := beq_eq_false_iff_ne.mpr c32
        have c32b1 : (t658 != 3) = true := bne_iff_ne.mpr c32
        obtain rfl := Option.some.inj H
        go_wp2_with (first | ((with_reducible refine gate_callee (f := 18) rfl ?_); refine goesL_ (some 21) rfl rfl Tryz.func18 (by kernel_rfl) rfl #[.string a0] rfl qbv25 ?_; (with_reducible refine (line_Read.calls a0 t646 t649 t650 t653 _ ?side1 ?side2 ?side3 ?side4 ?side5 A7.out).mono ?_); (case side1 => exact qbv17); (case side2 => exact qbv21); (case side3 => exact qbv22); (case side4 => exact qbv24); (case side5 => exact qbv23); rintro e w41 ⟨v647, v651, rfl, ho0, ho1, hb⟩; refine ⟨_, rfl, ?_⟩; have n0_ := Aside0.mk (Kd.R_lower ho0 (below_size qbv26)); have n1_ := Aside0.mk (Kd.R_lower ho1 (below_size qbv26)); have n2_ := Aside0.mk (below_step qbv26 hb); clear HB; have HO648 := n0_; have HO652 := n1_; have HB := n2_; clear n0_ n1_ n2_; (try clear hb); (try clear hb2); (try clear hk); (try clear hi); (try clear ho0); (try clear ho1)) | ((with_reducible refine gate_dst (N := 4) rfl ?_); refine box_event ?hg (N := 4) ?hd (cs := #[.slice none 0 0, .string (⟨#[]⟩ : ByteArray), .slice none 0 0]) (t := 25) ?hr ?_; (case hd => rfl); (case hg => rfl); (case hr => exact qbv30); intro gb654 hg w42 hbox hb; have n0_ := Aside0.mk (Kd.R_below qbv28 hb); have n1_ := Aside0.mk (Kd.R_below qbv29 hb); have n2_ := Aside0.mk (below_step qbv26 hb); have n3_ := Aside0.mk (hbox); have n4_ := Aside0.mk ((by rw [hg]; exact (below_size qbv26) : w.heap.size ≤ gb654)); have n5_ := Aside0.mk ((by rw [hg]; exact (below_size qbv26) : w.heap.size ≤ gb654)); clear HO648; clear HO652; clear HB; have HO648 := n0_; have HO652 := n1_; have HB := n2_; have BK654 := n3_; have GW654 := n4_; have GE654 := n5_; clear n0_ n1_ n2_ n3_ n4_ n5_; clear hb hbox hg; obtain ⟨Ao43, co43, eo43⟩ := Kd.R_slice HO648.out; subst eo43; have hcz44_0 := bc0 BK654.out; have hcz44_1 := bc1 BK654.out; have hcz44_2 := bc2 BK654.out; have hfz44_0 := blk_frozen BK654.out 0; have hfz44_1 := blk_frozen BK654.out 1; have hfz44_2 := blk_frozen BK654.out 2; obtain ⟨Ao45, co45, eo45⟩ := Kd.R_slice HO652.out; subst eo45) | ((with_reducible refine gate_callee (f := 11) rfl ?_); refine goesL_ (some 30) rfl rfl Tryz.func11 (by kernel_rfl) rfl #[.agg #[.slice Ao43 t646.length co43, .string t649, .slice Ao45 t650.length co45]] rfl qbv25 ?_; (with_reducible refine (line_Check.calls kj2 _ _ t646 t649 _ _ t650 t656 _ ?side1 ?side2 ?side3 ?side4 ?side5 ?side6 ?side7 ?side8 ?side9 A9.out).mono ?_); (case side1 => refine (Kd.R_reads' (e := 9) (base := w.heap.size) (ok := fun k_ => True) (n := t646.length) (c := co43) ?_).2.2; exact qbv2); (case side2 => exact qbv31); (case side3 => refine (Kd.R_reads' (e := 40) (base := w.heap.size) (ok := fun k_ => True) (n := t650.length) (c := co45) ?_).2.2; exact qbv6); (case side4 => exact qbv32); (case side5 => exact qbv12); (case side6 => exact qbv13); (case side7 => exact qbv14); (case side8 => exact qbv16); (case side9 => exact qbv15); rintro e w46 ⟨rfl, hb⟩; refine ⟨_, rfl, ?_⟩; have n0_ := Aside0.mk (Kd.R_below qbv2 hb); have n1_ := Aside0.mk (Kd.R_below qbv6 hb); have n2_ := Aside0.mk (blk_below (g := gb654) (o := .cells #[.slice Ao43 t646.length co43, .string t649, .slice Ao45 t650.length co45] 25 (0, 0)) (by (with_reducible repeat (first | refine blk_drewN ?_ _ | refine blk_drew ?_ | refine blk_alloc ?_ _)); refine blk_put (cs := #[.slice Ao43 t646.length co43, .string t649, .slice none 0 0]) ?_ 2 _ rfl; (with_reducible repeat (first | refine blk_drewN ?_ _ | refine blk_drew ?_ | refine blk_alloc ?_ _)); refine blk_put (cs := #[.slice Ao43 t646.length co43, .string (⟨#[]⟩ : ByteArray), .slice none 0 0]) ?_ 1 _ rfl; (with_reducible repeat (first | refine blk_drewN ?_ _ | refine blk_drew ?_ | refine blk_alloc ?_ _)); refine blk_put (cs := #[.slice none 0 0, .string (⟨#[]⟩ : ByteArray), .slice none 0 0]) ?_ 0 _ rfl; (with_reducible repeat (first | refine blk_drewN ?_ _ | refine blk_drew ?_ | refine blk_alloc ?_ _)); exact BK654.out) hb); have n3_ := Aside0.mk (below_step qbv20 hb); clear HO648; clear HO652; clear BK654; clear HB; have HO648 := n0_; have HO652 := n1_; have BK654 := n2_; have HB := n3_; clear n0_ n1_ n2_ n3_; (try clear hb); (try clear hb2); (try clear hk); (try clear hi); have hcz47_0 := bc0 BK654.out; have hcz47_1 := bc1 BK654.out; have hcz47_2 := bc2 BK654.out; have hfz47_0 := blk_frozen BK654.out 0; have hfz47_1 := blk_frozen BK654.out 1; have hfz47_2 := blk_frozen BK654.out 2) | ((with_reducible refine gate_callee (f := 9) rfl ?_); refine goesL_ (some 34) rfl rfl Tryz.func9 (by kernel_rfl) rfl #[.agg #[.slice Ao43 t646.length co43, .string t649, .slice Ao45 t650.length co45]] rfl qbv25 ?_; (with_reducible refine (line_Write.calls kj2 _ _ t646 t649 _ _ t650 t657 t658 _ ?side1 ?side2 ?side3 ?side4 ?side5 ?side6 ?side7 ?side8 ?side9 A11.out).mono ?_); (case side1 => exact qbv18); (case side2 => exact qbv31); (case side3 => exact qbv19); (case side4 => exact qbv32); (case side5 => exact qbv12); (case side6 => exact qbv13); (case side7 => exact qbv14); (case side8 => exact qbv16); (case side9 => exact qbv15); rintro e w48 ⟨rfl, hb⟩; refine ⟨_, rfl, ?_⟩; have n0_ := Aside0.mk (Kd.R_below qbv28 hb); have n1_ := Aside0.mk (Kd.R_below qbv29 hb); have n2_ := Aside0.mk (blk_below (g := gb654) (o := .cells #[.slice Ao43 t646.length co43, .string t649, .slice Ao45 t650.length co45] 25 (0, 0)) qbv27 hb); have n3_ := Aside0.mk (below_step qbv20 hb); clear HO648; clear HO652; clear BK654; clear HB; have HO648 := n0_; have HO652 := n1_; have BK654 := n2_; have HB := n3_; clear n0_ n1_ n2_ n3_; (try clear hb); (try clear hb2); (try clear hk); (try clear hi)))
        go_ret
        exact ⟨by first | rfl | (simp [errW_none, errW_some] <;> rfl) | (simp [*, errW_none, errW_some] <;> rfl), by repeat (first | (with_reducible first | exact HB.out | apply below_alloc | apply pw_below_drewN | apply below_drew1 | refine below_set ?_ GE654.out) | exact HB.out)⟩
     ·
      rw [if_neg c10] at H
      exact absurd H (by simp)
    ·
     rw [if_neg c8] at H
     have c8b0 : (t653 == 0) = false := beq_eq_false_iff_ne.mpr c8
     have c8b1 : (t653 != 0) = true := bne_iff_ne.mpr c8
     replace H := Option.bind_eq_some_iff.mp H
     obtain ⟨t655, A490, H⟩ := H
     replace H : (some t655) = some r := H
     have A49 := Aside0.mk A490
     clear A490
     obtain rfl := Option.some.inj H
     go_wp2_with (first | ((with_reducible refine gate_callee (f := 18) rfl ?_); refine goesL_ (some 21) rfl rfl Tryz.func18 (by kernel_rfl) rfl #[.string a0] rfl qbv25 ?_; (with_reducible refine (line_Read.calls a0 t646 t649 t650 t653 _ ?side1 ?side2 ?side3 ?side4 ?side5 A7.out).mono ?_); (case side1 => exact qbv17); (case side2 => exact qbv21); (case side3 => exact qbv22); (case side4 => exact qbv24); (case side5 => exact qbv23); rintro e w50 ⟨v647, v651, rfl, ho0, ho1, hb⟩; refine ⟨_, rfl, ?_⟩; have n0_ := Aside0.mk (Kd.R_lower ho0 (below_size qbv26)); have n1_ := Aside0.mk (Kd.R_lower ho1 (below_size qbv26)); have n2_ := Aside0.mk (below_step qbv26 hb); clear HB; have HO648 := n0_; have HO652 := n1_; have HB := n2_; clear n0_ n1_ n2_; (try clear hb); (try clear hb2); (try clear hk); (try clear hi); (try clear ho0); (try clear ho1)) | ((with_reducible refine gate_dst (N := 4) rfl ?_); refine box_event ?hg (N := 4) ?hd (cs := #[.slice none 0 0, .string (⟨#[]⟩ : ByteArray), .slice none 0 0]) (t := 25) ?hr ?_; (case hd => rfl); (case hg => rfl); (case hr => exact qbv30); intro gb654 hg w51 hbox hb; have n0_ := Aside0.mk (Kd.R_below qbv28 hb); have n1_ := Aside0.mk (Kd.R_below qbv29 hb); have n2_ := Aside0.mk (below_step qbv26 hb); have n3_ := Aside0.mk (hbox); have n4_ := Aside0.mk ((by rw [hg]; exact (below_size qbv26) : w.heap.size ≤ gb654)); have n5_ := Aside0.mk ((by rw [hg]; exact (below_size qbv26) : w.heap.size ≤ gb654)); clear HO648; clear HO652; clear HB; have HO648 := n0_; have HO652 := n1_; have HB := n2_; have BK654 := n3_; have GW654 := n4_; have GE654 := n5_; clear n0_ n1_ n2_ n3_ n4_ n5_; clear hb hbox hg; obtain ⟨Ao52, co52, eo52⟩ := Kd.R_slice HO648.out; subst eo52; have hcz53_0 := bc0 BK654.out; have hcz53_1 := bc1 BK654.out; have hcz53_2 := bc2 BK654.out; have hfz53_0 := blk_frozen BK654.out 0; have hfz53_1 := blk_frozen BK654.out 1; have hfz53_2 := blk_frozen BK654.out 2; obtain ⟨Ao54, co54, eo54⟩ := Kd.R_slice HO652.out; subst eo54) | ((with_reducible refine gate_callee (f := 13) rfl ?_); refine goesL_ (some 28) rfl rfl Tryz.func13 (by kernel_rfl) rfl #[.agg #[.slice Ao52 t646.length co52, .string t649, .slice Ao54 t650.length co54], .agg #[.slice none 0 0, .string (⟨#[]⟩ : ByteArray), .slice none 0 0]] rfl qbv25 ?_; (refine (line_Same.calls kj2 _ _ t646 t649 _ _ t650 _ _ ([] : List ByteArray) (⟨#[]⟩ : ByteArray) _ _ ([] : List (S40)) t655 _ ?side1 ?side2 ?side3 ?side4 ?side5 ?side6 ?side7 ?side8 A49.out).mono ?_); (case side1 => refine (Kd.R_reads' (e := 9) (base := w.heap.size) (ok := fun k_ => True) (n := t646.length) (c := co52) ?_).2.2; exact qbv3); (case side2 => exact qbv31); (case side3 => refine (Kd.R_reads' (e := 40) (base := w.heap.size) (ok := fun k_ => True) (n := t650.length) (c := co54) ?_).2.2; exact qbv7); (case side4 => exact qbv32); (case side5 => exact Kd.C_nil _ _); (case side6 => exact Nat.le_refl _); (case side7 => exact Kd.C_nil _ _); (case side8 => exact Nat.le_refl _); rintro e w55 ⟨rfl, hb⟩; refine ⟨_, rfl, ?_⟩; have n0_ := Aside0.mk (Kd.R_below qbv3 hb); have n1_ := Aside0.mk (Kd.R_below qbv7 hb); have n2_ := Aside0.mk (blk_below (g := gb654) (o := .cells #[.slice Ao52 t646.length co52, .string t649, .slice Ao54 t650.length co54] 25 (0, 0)) (by (with_reducible repeat (first | refine blk_drewN ?_ _ | refine blk_drew ?_ | refine blk_alloc ?_ _)); refine blk_put (cs := #[.slice Ao52 t646.length co52, .string t649, .slice none 0 0]) ?_ 2 _ rfl; (with_reducible repeat (first | refine blk_drewN ?_ _ | refine blk_drew ?_ | refine blk_alloc ?_ _)); refine blk_put (cs := #[.slice Ao52 t646.length co52, .string (⟨#[]⟩ : ByteArray), .slice none 0 0]) ?_ 1 _ rfl; (with_reducible repeat (first | refine blk_drewN ?_ _ | refine blk_drew ?_ | refine blk_alloc ?_ _)); refine blk_put (cs := #[.slice none 0 0, .string (⟨#[]⟩ : ByteArray), .slice none 0 0]) ?_ 0 _ rfl; (with_reducible repeat (first | refine blk_drewN ?_ _ | refine blk_drew ?_ | refine blk_alloc ?_ _)); exact BK654.out) hb); have n3_ := Aside0.mk (below_step qbv20 hb); clear HO648; clear HO652; clear BK654; clear HB; have HO648 := n0_; have HO652 := n1_; have BK654 := n2_; have HB := n3_; clear n0_ n1_ n2_ n3_; (try clear hb); (try clear hb2); (try clear hk); (try clear hi)))
     go_ret
     exact ⟨by first | rfl | (simp [errW_none, errW_some] <;> rfl) | (simp [*, errW_none, errW_some] <;> rfl), by repeat (first | (with_reducible first | exact HB.out | apply below_alloc | apply pw_below_drewN | apply below_drew1 | refine below_set ?_ GE654.out) | exact HB.out)⟩

def quoinlaw17_LineAgain.Pure : Prop := ∀ (a0 : ByteArray), a0.size ≤ 140737488351232 → ∃ k, quoinlaw17_LineAgain.f k a0 = some true
theorem quoinlaw17_LineAgain.walk (P : quoinlaw17_LineAgain.Pure) (a0 : ByteArray) (w : World) (hT : Lib.TabIs Tryz.prog w "internal/strconv.uint64pow10" .u64 Lib.pow10Tab) (hD : LexW.LexD w) (hE : LexW.LexE w) (hM : ExW.ModsAt w) (hG : LiW.RegsAt w) (w0_0 : a0.size ≤ 140737488351232) :
  Calls Tryz.prog 6 #[.string a0] w fun e w' => e = .returned (.bool true) ∧ Below w.heap.size w w' := by
 obtain ⟨k, h⟩ := P a0 w0_0
 refine (quoinlaw17_LineAgain.calls k a0 true w hT hD hE hM hG h).mono ?_
 rintro e w' ⟨rfl, hd⟩
 exact ⟨rfl, hd⟩

end Go.Proofs.YtbfndlfemhidaaaGreatDoor.P
