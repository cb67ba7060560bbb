/- Texts of this seat in one (Px26), what nothing speaks of left out: by pack.py, a program of this session. -/
import Derived.Test.YtbfndlfemhidaaaGreatDoorPx0
import Derived.Test.YtbfndlfemhidaaaGreatDoorPx8
import Derived.Test.YtbfndlfemhidaaaGreatDoorPx13
import Derived.Test.YtbfndlfemhidaaaGreatDoorPx14
import Derived.Test.YtbfndlfemhidaaaGreatDoorPx15
namespace Go.Proofs.YtbfndlfemhidaaaGreatDoor.P
open Go.RowKit Go.Proofs.YtbfndlfemhidaaaGreatDoor.LexP Go.Proofs.YtbfndlfemhidaaaGreatDoorW.PrintWords Go.Proofs.YtbfndlfemhidaaaGreatDoorW.PrintLast Go.Proofs.YtbfndlfemhidaaaGreatDoorW.PrintMore
theorem qbi13 {P : Prop} (h : P := by (with_reducible repeat (first | refine blk_drewN ?_ _ | refine blk_drew ?_ | refine blk_alloc ?_ _)); exact BK630.out) : P := h
theorem qbi12 {P : Prop} (h : P := by repeat (first | (with_reducible first | exact HB.out | apply below_alloc | apply pw_below_drewN | apply below_drew1) | exact HB.out)) : P := h
theorem qbi11 {P : Prop} (h : P := by (try simp only [List.map_toArray, List.map_cons, List.map_nil]); first | done | rfl | (simp only [List.length_drop, List.length_take]; rfl)) : P := h
theorem qbi10 {P : Prop} (h : P := by repeat (first | (with_reducible first | exact HB.out | apply below_alloc | apply pw_below_drewN | apply below_drew1 | refine below_set ?_ GE630.out) | exact HB.out)) : P := h
theorem qbi9 {P : Prop} (h : P := by repeat (first | exact (Kd.C_below HR0_2.out HB.out) | (with_reducible refine Kd.C_alloc ?_ _) | (with_reducible refine Kd.C_drewN ?_ _) | (with_reducible refine Kd.C_drew ?_))) : P := h
theorem qbi8 {P : Prop} (h : P := by repeat (first | exact (Kd.C_below HR0_0.out HB.out) | (with_reducible refine Kd.C_alloc ?_ _) | (with_reducible refine Kd.C_drewN ?_ _) | (with_reducible refine Kd.C_drew ?_))) : P := h
theorem qbi7 {P : Prop} (h : P := by exact HM_.out.below qbi10) : P := h
theorem qbi6 {P : Prop} (h : P := by exact HG_.out.below qbi10) : P := h
theorem qbi5 {P : Prop} (h : P := by exact HE_.out.below qbi10) : P := h
theorem qbi4 {P : Prop} (h : P := by exact HD_.out.below qbi10) : P := h
theorem qbi3 {P : Prop} (h : P := by repeat (first | (with_reducible first | exact HB.out | apply below_alloc | apply pw_below_drewN | apply below_drew1 | refine below_set ?_ GE630.out | refine below_set ?_ GE643.out) | exact HB.out)) : P := h
theorem qbi2 {P : Prop} (h : P := by exact Lib.tabBelow_of_tabIs HT.out _ qbi10) : P := h
theorem qbi1 {P : Prop} (h : P := by (with_reducible repeat (first | apply Kd.R_alloc | apply Kd.R_drewN | apply Kd.R_drew)); exact (Kd.R_mono (Kd.R_far (p := ⟨gb643, 2, none⟩) (Kd.R_far (p := ⟨gb643, 1, none⟩) (Kd.R_far (p := ⟨gb643, 0, none⟩) (Kd.R_types HO641.out BK643.out (by decide)) (fun _ hk => hk.2) (.slice Ao22 t635.length co22)) (fun _ hk => hk.2) (.string t638)) (fun _ hk => hk.2) (.slice Ao25 t639.length co25)) (fun _ h_ => h_.1))) : P := h
theorem qbi0 {P : Prop} (h : P := by (with_reducible repeat (first | apply Kd.R_alloc | apply Kd.R_drewN | apply Kd.R_drew)); exact (Kd.R_mono (Kd.R_far (p := ⟨gb643, 2, none⟩) (Kd.R_far (p := ⟨gb643, 1, none⟩) (Kd.R_far (p := ⟨gb643, 0, none⟩) (Kd.R_types HO637.out BK643.out (by decide)) (fun _ hk => hk.2) (.slice Ao22 t635.length co22)) (fun _ hk => hk.2) (.string t638)) (fun _ hk => hk.2) (.slice Ao25 t639.length co25)) (fun _ h_ => h_.1))) : P := h
attribute [local go_sem] max2_int min2_int max_two min_two max_three min_three max_four min_four   -- for this text's walks alone
set_option linter.unusedVariables false
set_option linter.unusedSimpArgs false

def quoinlaw17_LineBack.j0 : Nat → Bool → Bool → List ByteArray → ByteArray → List (S40) → Option (Bool)
 | 0, _, _, _, _, _ => none
 | k + 1, x3, x14, x631000, x631001, x631002 => if x14 = true then (some x3) else ((line_Write.f k x631000 x631001 x631002).bind fun bt633 => (if bt633.2 = 0 then ((line_Read.f bt633.1).bind fun bt635 => (if bt635.2.2.2 = 0 then ((line_Same.f k bt635.1 bt635.2.1 bt635.2.2.1 x631000 x631001 x631002).bind fun t644 => (some t644)) else (none))) else (some (bt633.1.toList == ([] : List UInt8)))))
def quoinlaw17_LineBack.f (k : Nat) (l0_0 : List ByteArray) (a0_1 : ByteArray) (l0_2 : List (S40)) : Option (Bool) := (quoinlaw17_alive.f k).bind fun t631 => ((quoinref17_Great.f k l0_0 a0_1 l0_2).bind fun t632 => (if t632 = true then (quoinlaw17_LineBack.j0 k t631 true l0_0 a0_1 l0_2) else (quoinlaw17_LineBack.j0 k t631 (!t631) l0_0 a0_1 l0_2)))
set_option maxHeartbeats 8000000 in
set_option maxRecDepth 100000 in
theorem quoinlaw17_LineBack.calls (k : Nat) (A0_0 : Option Addr) (c0_0 : Nat) (l0_0 : List ByteArray) (a0_1 : ByteArray) (A0_2 : Option Addr) (c0_2 : Nat) (l0_2 : List (S40)) (r : Bool) (w : World) (hr0_0 : Kd.C Kd.string w A0_0 l0_0.length l0_0) (hc0_0 : l0_0.length ≤ c0_0) (hr0_2 : Kd.C k40 w A0_2 l0_2.length l0_2) (hc0_2 : l0_2.length ≤ c0_2) (hT : Lib.TabIs Tryz.prog w "internal/strconv.uint64pow10" .u64 Lib.pow10Tab) (hD : LexW.LexD w) (hE : LexW.LexE w) (hM : ExW.ModsAt w) (hG : LiW.RegsAt w) (h : quoinlaw17_LineBack.f k l0_0 a0_1 l0_2 = some r) :
  Calls Tryz.prog 5 #[.agg #[.slice A0_0 l0_0.length c0_0, .string a0_1, .slice A0_2 l0_2.length c0_2]] w fun e w' => e = .returned (.bool r) ∧ Below w.heap.size w w' := by
 have hu25 := Tryz.underlying25
 have HR0_0 := Aside0.mk hr0_0
 have HC0_0 := Aside0.mk hc0_0
 clear hr0_0 hc0_0
 have HR0_2 := Aside0.mk hr0_2
 have HC0_2 := Aside0.mk hc0_2
 clear hr0_2 hc0_2
 have HT := Aside0.mk hT
 clear hT
 have HD_ := Aside0.mk hD
 clear hD
 have HE_ := Aside0.mk hE
 clear hE
 have HM_ := Aside0.mk hM
 clear hM
 have HG_ := Aside0.mk hG
 clear hG
 have HB := Aside0.mk (Below.refl w.heap.size w)
 have H : ((quoinlaw17_alive.f k).bind fun t631 => ((quoinref17_Great.f k l0_0 a0_1 l0_2).bind fun t632 => (if t632 = true then (quoinlaw17_LineBack.j0 k t631 true l0_0 a0_1 l0_2) else (quoinlaw17_LineBack.j0 k t631 (!t631) l0_0 a0_1 l0_2)))) = some r := h
 clear h
 replace H := Option.bind_eq_some_iff.mp H
 obtain ⟨t631, A20, H⟩ := H
 replace H : ((quoinref17_Great.f k l0_0 a0_1 l0_2).bind fun t632 => (if t632 = true then (quoinlaw17_LineBack.j0 k t631 true l0_0 a0_1 l0_2) else (quoinlaw17_LineBack.j0 k t631 (!t631) l0_0 a0_1 l0_2))) = some r := H
 have A2 := Aside0.mk A20
 clear A20
 have HC3 := Aside0.mk H
 clear H
 go_enter Tryz.func5, Tryz.ntmps5
 go_upto_region 2 with (first | ((with_reducible refine gate_dst (N := 1) rfl ?_); refine box_event ?hg (N := 1) ?hd (cs := #[.slice A0_0 l0_0.length c0_0, .string a0_1, .slice A0_2 l0_2.length c0_2]) (t := 25) ?hr ?_; (case hd => rfl); (case hg => rfl); (case hr => first | (go_simp; done) | (go_simp; rfl)); intro gb630 hg w4 hbox hb; have n0_ := Aside0.mk (below_step qbi12 hb); have n1_ := Aside0.mk (hbox); have n2_ := Aside0.mk ((by rw [hg]; exact (below_size qbi12) : w.heap.size ≤ gb630)); have n3_ := Aside0.mk ((by rw [hg]; exact (below_size qbi12) : w.heap.size ≤ gb630)); clear HB; have HB := n0_; have BK630 := n1_; have GW630 := n2_; have GE630 := n3_; clear n0_ n1_ n2_ n3_; clear hb hbox hg) | ((with_reducible refine gate_callee (f := 17) rfl ?_); refine goesL_ (some 8) rfl rfl Tryz.func17 (by kernel_rfl) rfl #[] rfl qbi11 ?_; (with_reducible refine (quoinlaw17_alive.calls k  t631 _ ?side1 ?side2 ?side3 ?side4 ?side5 A2.out).mono ?_); (case side1 => exact qbi2); (case side2 => exact qbi4); (case side3 => exact qbi5); (case side4 => exact qbi7); (case side5 => exact qbi6); rintro e w5 ⟨rfl, hb⟩; refine ⟨_, rfl, ?_⟩; have n0_ := Aside0.mk (blk_below (g := gb630) (o := .cells #[.slice A0_0 l0_0.length c0_0, .string a0_1, .slice A0_2 l0_2.length c0_2] 25 (0, 0)) qbi13 hb); have n1_ := Aside0.mk (below_step qbi10 hb); clear BK630; clear HB; have BK630 := n0_; have HB := n1_; clear n0_ n1_; (try clear hb); (try clear hb2); (try clear hk); (try clear hi)))
 (try simp only [Act.put, List.setIfInBounds_toArray, List.set_cons_zero, List.set_cons_succ])
 go_cut [14] (fun v14 wc => ∃ (kq : Nat) (x14_2 : Bool), v14 = .bool x14_2 ∧ Aside0 (quoinlaw17_LineBack.j0 kq t631 x14_2 l0_0 a0_1 l0_2 = some r) ∧ Aside0 (kq ≤ k) ∧ Aside0 (wc.heap[gb630]? = some (.cells #[(.slice A0_0 l0_0.length c0_0), .string a0_1, (.slice A0_2 l0_2.length c0_2)] 25 (0, 0))) ∧ Aside0 (Below w.heap.size w wc))
 case first =>
  have H := HC3.out
  clear HC3
  replace H := Option.bind_eq_some_iff.mp H
  obtain ⟨t632, A60, H⟩ := H
  replace H : (if t632 = true then (quoinlaw17_LineBack.j0 k t631 true l0_0 a0_1 l0_2) else (quoinlaw17_LineBack.j0 k t631 (!t631) l0_0 a0_1 l0_2)) = some r := H
  have A6 := Aside0.mk A60
  clear A60
  by_cases c7 : t632 = true
  ·
   subst c7
   have H1 : (quoinlaw17_LineBack.j0 k t631 true l0_0 a0_1 l0_2) = some r := by rw [if_pos rfl] at H; exact H
   clear H
   have H := H1
   clear H1
   have H' := Aside0.mk H
   clear H
   have hcz8_0 := bc0 BK630.out
   have hcz8_1 := bc1 BK630.out
   have hcz8_2 := bc2 BK630.out
   have hfz8_0 := blk_frozen BK630.out 0
   have hfz8_1 := blk_frozen BK630.out 1
   have hfz8_2 := blk_frozen BK630.out 2
   go_wp2_with (first | ((with_reducible refine gate_callee (f := 7) rfl ?_); refine goesL_ (some 10) rfl rfl Tryz.func7 (by kernel_rfl) rfl #[.agg #[.slice A0_0 l0_0.length c0_0, .string a0_1, .slice A0_2 l0_2.length c0_2]] rfl qbi11 ?_; (with_reducible refine (quoinref17_Great.calls k _ _ l0_0 a0_1 _ _ l0_2 true _ ?side1 ?side2 ?side3 ?side4 A6.out).mono ?_); (case side1 => exact qbi8); (case side2 => exact HC0_0.out); (case side3 => exact qbi9); (case side4 => exact HC0_2.out); rintro e w9 ⟨rfl, hb⟩; refine ⟨_, rfl, ?_⟩; have n0_ := Aside0.mk (blk_below (g := gb630) (o := .cells #[.slice A0_0 l0_0.length c0_0, .string a0_1, .slice A0_2 l0_2.length c0_2] 25 (0, 0)) qbi13 hb); have n1_ := Aside0.mk (below_step qbi10 hb); clear BK630; clear HB; have BK630 := n0_; have HB := n1_; clear n0_ n1_; (try clear hb); (try clear hb2); (try clear hk); (try clear hi)))
   go_meet
   case rel => exact ⟨_, (true), (by first | rfl | (simp; done) | (simp [*]; done)), H', ⟨by first | omega | exact Nat.le_refl _⟩, ⟨by (with_reducible repeat (first | refine blk_drewN ?_ _ | refine blk_drew ?_ | refine blk_alloc ?_ _)); exact BK630.out⟩, ⟨by repeat (first | (with_reducible first | exact HB.out | apply below_alloc | apply pw_below_drewN | apply below_drew1 | refine below_set ?_ GE630.out) | exact HB.out)⟩⟩
  ·
   replace c7 := Bool.eq_false_iff.mpr c7
   subst c7
   have H1 : (quoinlaw17_LineBack.j0 k t631 (!t631) l0_0 a0_1 l0_2) = some r := by rw [if_neg (show ¬ (false = true) by decide)] at H; exact H
   clear H
   have H := H1
   clear H1
   have H' := Aside0.mk H
   clear H
   have hcz10_0 := bc0 BK630.out
   have hcz10_1 := bc1 BK630.out
   have hcz10_2 := bc2 BK630.out
   have hfz10_0 := blk_frozen BK630.out 0
   have hfz10_1 := blk_frozen BK630.out 1
   have hfz10_2 := blk_frozen BK630.out 2
   go_wp2_with (first | ((with_reducible refine gate_callee (f := 7) rfl ?_); refine goesL_ (some 10) rfl rfl Tryz.func7 (by kernel_rfl) rfl #[.agg #[.slice A0_0 l0_0.length c0_0, .string a0_1, .slice A0_2 l0_2.length c0_2]] rfl qbi11 ?_; (with_reducible refine (quoinref17_Great.calls k _ _ l0_0 a0_1 _ _ l0_2 false _ ?side1 ?side2 ?side3 ?side4 A6.out).mono ?_); (case side1 => exact qbi8); (case side2 => exact HC0_0.out); (case side3 => exact qbi9); (case side4 => exact HC0_2.out); rintro e w11 ⟨rfl, hb⟩; refine ⟨_, rfl, ?_⟩; have n0_ := Aside0.mk (blk_below (g := gb630) (o := .cells #[.slice A0_0 l0_0.length c0_0, .string a0_1, .slice A0_2 l0_2.length c0_2] 25 (0, 0)) qbi13 hb); have n1_ := Aside0.mk (below_step qbi10 hb); clear BK630; clear HB; have BK630 := n0_; have HB := n1_; clear n0_ n1_; (try clear hb); (try clear hb2); (try clear hk); (try clear hi)))
   go_meet
   case rel => exact ⟨_, (!t631), (by first | rfl | (simp; done) | (simp [*]; done)), H', ⟨by first | omega | exact Nat.le_refl _⟩, ⟨by (with_reducible repeat (first | refine blk_drewN ?_ _ | refine blk_drew ?_ | refine blk_alloc ?_ _)); exact BK630.out⟩, ⟨by repeat (first | (with_reducible first | exact HB.out | apply below_alloc | apply pw_below_drewN | apply below_drew1 | refine below_set ?_ GE630.out) | exact HB.out)⟩⟩
 case rest =>
  clear HC3
  try clear c1
  try clear p2
  try clear c5
  try clear c7
  try clear hcz10_0
  try clear hcz10_1
  try clear hcz10_2
  try clear hcz8_0
  try clear hcz8_1
  try clear hcz8_2
  try clear hfz10_0
  try clear hfz10_1
  try clear hfz10_2
  try clear hfz8_0
  try clear hfz8_1
  try clear hfz8_2
  obtain ⟨kq, x14_2, rfl, HA, HJ2, BK630, HB⟩ := hcut
  cases kq with
  | zero => exact absurd HA.out (by simp [quoinlaw17_LineBack.j0])
  | succ kj2 =>
   have H := HA.out
   clear HA
   simp only [quoinlaw17_LineBack.j0] at H
   by_cases c12 : x14_2 = true
   ·
    subst c12
    have H1 : (some t631) = some r := by rw [if_pos rfl] at H; exact H
    clear H
    have H := H1
    clear H1
    obtain rfl := Option.some.inj H
    go_wp2
    go_ret
    exact ⟨by first | rfl | (simp [errW_none, errW_some] <;> rfl) | (simp [*, errW_none, errW_some] <;> rfl), by repeat (first | (with_reducible first | exact HB.out | apply below_alloc | apply pw_below_drewN | apply below_drew1 | refine below_set ?_ GE630.out) | exact HB.out)⟩
   ·
    replace c12 := Bool.eq_false_iff.mpr c12
    subst c12
    have H1 : ((line_Write.f kj2 l0_0 a0_1 l0_2).bind fun bt633 => (if bt633.2 = 0 then ((line_Read.f bt633.1).bind fun bt635 => (if bt635.2.2.2 = 0 then ((line_Same.f kj2 bt635.1 bt635.2.1 bt635.2.2.1 l0_0 a0_1 l0_2).bind fun t644 => (some t644)) else (none))) else (some (bt633.1.toList == ([] : List UInt8))))) = some r := by rw [if_neg (show ¬ (false = true) by decide)] at H; exact H
    clear H
    have H := H1
    clear H1
    replace H := Option.bind_eq_some_iff.mp H
    obtain ⟨⟨t633, t634⟩, A130, H⟩ := H
    replace H : (if t634 = 0 then ((line_Read.f t633).bind fun bt635 => (if bt635.2.2.2 = 0 then ((line_Same.f kj2 bt635.1 bt635.2.1 bt635.2.2.1 l0_0 a0_1 l0_2).bind fun t644 => (some t644)) else (none))) else (some (t633.toList == ([] : List UInt8)))) = some r := H
    have A13 := Aside0.mk A130
    clear A130
    by_cases c14 : t634 = 0
    ·
     rw [if_pos c14] at H
     have c14b0 : (t634 == 0) = true := beq_iff_eq.mpr c14
     have c14b1 : (t634 != 0) = false := bne_eq_false_iff_eq.mpr c14
     clear c14
     replace H := Option.bind_eq_some_iff.mp H
     obtain ⟨⟨t635, t638, t639, t642⟩, A150, H⟩ := H
     replace H : (if t642 = 0 then ((line_Same.f kj2 t635 t638 t639 l0_0 a0_1 l0_2).bind fun t644 => (some t644)) else (none)) = some r := H
     have A15 := Aside0.mk A150
     clear A150
     by_cases c16 : t642 = 0
     ·
      rw [if_pos c16] at H
      have c16b0 : (t642 == 0) = true := beq_iff_eq.mpr c16
      have c16b1 : (t642 != 0) = false := bne_eq_false_iff_eq.mpr c16
      clear c16
      replace H := Option.bind_eq_some_iff.mp H
      obtain ⟨t644, A170, H⟩ := H
      replace H : (some t644) = some r := H
      have A17 := Aside0.mk A170
      clear A170
      obtain rfl := Option.some.inj H
      have hcz18_0 := bc0 BK630.out
      have hcz18_1 := bc1 BK630.out
      have hcz18_2 := bc2 BK630.out
      have hfz18_0 := blk_frozen BK630.out 0
      have hfz18_1 := blk_frozen BK630.out 1
      have hfz18_2 := blk_frozen BK630.out 2
      go_wp2_with (first | ((with_reducible refine gate_callee (f := 9) rfl ?_); refine goesL_ (some 18) rfl rfl Tryz.func9 (by kernel_rfl) rfl #[.agg #[.slice A0_0 l0_0.length c0_0, .string a0_1, .slice A0_2 l0_2.length c0_2]] rfl qbi11 ?_; (with_reducible refine (line_Write.calls kj2 _ _ l0_0 a0_1 _ _ l0_2 t633 t634 _ ?side1 ?side2 ?side3 ?side4 ?side5 ?side6 ?side7 ?side8 ?side9 A13.out).mono ?_); (case side1 => exact qbi8); (case side2 => exact HC0_0.out); (case side3 => exact qbi9); (case side4 => exact HC0_2.out); (case side5 => exact qbi2); (case side6 => exact qbi4); (case side7 => exact qbi5); (case side8 => exact qbi7); (case side9 => exact qbi6); rintro e w19 ⟨rfl, hb⟩; refine ⟨_, rfl, ?_⟩; have n0_ := Aside0.mk (blk_below (g := gb630) (o := .cells #[.slice A0_0 l0_0.length c0_0, .string a0_1, .slice A0_2 l0_2.length c0_2] 25 (0, 0)) qbi13 hb); have n1_ := Aside0.mk (below_step qbi10 hb); clear BK630; clear HB; have BK630 := n0_; have HB := n1_; clear n0_ n1_; (try clear hb); (try clear hb2); (try clear hk); (try clear hi)) | ((with_reducible refine gate_callee (f := 18) rfl ?_); refine goesL_ (some 27) rfl rfl Tryz.func18 (by kernel_rfl) rfl #[.string t633] rfl qbi11 ?_; (with_reducible refine (line_Read.calls t633 t635 t638 t639 t642 _ ?side1 ?side2 ?side3 ?side4 ?side5 A15.out).mono ?_); (case side1 => exact qbi2); (case side2 => exact qbi4); (case side3 => exact qbi5); (case side4 => exact qbi7); (case side5 => exact qbi6); rintro e w20 ⟨v636, v640, rfl, ho0, ho1, hb⟩; refine ⟨_, rfl, ?_⟩; have n0_ := Aside0.mk (Kd.R_lower ho0 (below_size qbi10)); have n1_ := Aside0.mk (Kd.R_lower ho1 (below_size qbi10)); have n2_ := Aside0.mk (blk_below (g := gb630) (o := .cells #[.slice A0_0 l0_0.length c0_0, .string a0_1, .slice A0_2 l0_2.length c0_2] 25 (0, 0)) qbi13 hb); have n3_ := Aside0.mk (below_step qbi10 hb); clear BK630; clear HB; have HO637 := n0_; have HO641 := n1_; have BK630 := n2_; have HB := n3_; clear n0_ n1_ n2_ n3_; (try clear hb); (try clear hb2); (try clear hk); (try clear hi); (try clear ho0); (try clear ho1)) | ((with_reducible refine gate_dst (N := 6) rfl ?_); refine box_event ?hg (N := 6) ?hd (cs := #[.slice none 0 0, .string (⟨#[]⟩ : ByteArray), .slice none 0 0]) (t := 25) ?hr ?_; (case hd => rfl); (case hg => rfl); (case hr => first | (go_simp; done) | (go_simp; rfl)); intro gb643 hg w21 hbox hb; have n0_ := Aside0.mk (Kd.R_below (by (with_reducible repeat (first | apply Kd.R_alloc | apply Kd.R_drewN | apply Kd.R_drew)); exact HO637.out) hb); have n1_ := Aside0.mk (Kd.R_below (by (with_reducible repeat (first | apply Kd.R_alloc | apply Kd.R_drewN | apply Kd.R_drew)); exact HO641.out) hb); have n2_ := Aside0.mk (blk_below (g := gb630) (o := .cells #[.slice A0_0 l0_0.length c0_0, .string a0_1, .slice A0_2 l0_2.length c0_2] 25 (0, 0)) qbi13 hb); have n3_ := Aside0.mk (below_step qbi10 hb); have n4_ := Aside0.mk (hbox); have n5_ := Aside0.mk ((by rw [hg]; exact (below_size qbi10) : w.heap.size ≤ gb643)); have n6_ := Aside0.mk ((by rw [hg]; exact (below_size qbi10) : w.heap.size ≤ gb643)); have n7_ := Aside0.mk ((by rw [hg]; exact Nat.ne_of_lt (blk_lt (g := gb630) (o := .cells #[.slice A0_0 l0_0.length c0_0, .string a0_1, .slice A0_2 l0_2.length c0_2] 25 (0, 0)) qbi13) : gb630 ≠ gb643)); have n8_ := Aside0.mk ((by rw [hg]; exact Nat.ne_of_gt (blk_lt (g := gb630) (o := .cells #[.slice A0_0 l0_0.length c0_0, .string a0_1, .slice A0_2 l0_2.length c0_2] 25 (0, 0)) qbi13) : gb643 ≠ gb630)); clear HO637; clear HO641; clear BK630; clear HB; have HO637 := n0_; have HO641 := n1_; have BK630 := n2_; have HB := n3_; have BK643 := n4_; have GW643 := n5_; have GE643 := n6_; have NB630_643 := n7_; have NB643_630 := n8_; clear n0_ n1_ n2_ n3_ n4_ n5_ n6_ n7_ n8_; clear hb hbox hg; obtain ⟨Ao22, co22, eo22⟩ := Kd.R_slice HO637.out; subst eo22; have hnb23 := NB643_630.out; have hnc23 := NB630_643.out; have hcz24_0 := bc0 BK643.out; have hcz24_1 := bc1 BK643.out; have hcz24_2 := bc2 BK643.out; have hfz24_0 := blk_frozen BK643.out 0; have hfz24_1 := blk_frozen BK643.out 1; have hfz24_2 := blk_frozen BK643.out 2; obtain ⟨Ao25, co25, eo25⟩ := Kd.R_slice HO641.out; subst eo25; have hcz26_0 := bc0 BK630.out; have hcz26_1 := bc1 BK630.out; have hcz26_2 := bc2 BK630.out; have hfz26_0 := blk_frozen BK630.out 0; have hfz26_1 := blk_frozen BK630.out 1; have hfz26_2 := blk_frozen BK630.out 2) | (go_at_call 13; (with_reducible refine (line_Same.calls kj2 _ _ t635 t638 _ _ t639 _ _ l0_0 a0_1 _ _ l0_2 t644 _ ?side1 ?side2 ?side3 ?side4 ?side5 ?side6 ?side7 ?side8 A17.out).mono ?_); (case side1 => refine (Kd.R_reads' (e := 9) (base := w.heap.size) (ok := fun k_ => True) (n := t635.length) (c := co22) ?_).2.2; exact qbi0); (case side2 => exact (Kd.R_reads' HO637.out).2.1); (case side3 => refine (Kd.R_reads' (e := 40) (base := w.heap.size) (ok := fun k_ => True) (n := t639.length) (c := co25) ?_).2.2; exact qbi1); (case side4 => exact (Kd.R_reads' HO641.out).2.1); (case side5 => exact Kd.C_below HR0_0.out qbi3); (case side6 => exact HC0_0.out); (case side7 => exact Kd.C_below HR0_2.out qbi3); (case side8 => exact HC0_2.out); rintro e w27 ⟨rfl, hb⟩; have n0_ := Aside0.mk (Kd.R_below qbi0 hb); have n1_ := Aside0.mk (Kd.R_below qbi1 hb); have n2_ := Aside0.mk (blk_below (g := gb630) (o := .cells #[.slice A0_0 l0_0.length c0_0, .string a0_1, .slice A0_2 l0_2.length c0_2] 25 (0, 0)) (by (with_reducible repeat (first | refine blk_drewN ?_ _ | refine blk_drew ?_ | refine blk_alloc ?_ _)); refine blk_far ?_ NB630_643.out _; (with_reducible repeat (first | refine blk_drewN ?_ _ | refine blk_drew ?_ | refine blk_alloc ?_ _)); refine blk_far ?_ NB630_643.out _; (with_reducible repeat (first | refine blk_drewN ?_ _ | refine blk_drew ?_ | refine blk_alloc ?_ _)); refine blk_far ?_ NB630_643.out _; (with_reducible repeat (first | refine blk_drewN ?_ _ | refine blk_drew ?_ | refine blk_alloc ?_ _)); exact BK630.out) hb); have n3_ := Aside0.mk (blk_below (g := gb643) (o := .cells #[.slice Ao22 t635.length co22, .string t638, .slice Ao25 t639.length co25] 25 (0, 0)) (by (with_reducible repeat (first | refine blk_drewN ?_ _ | refine blk_drew ?_ | refine blk_alloc ?_ _)); refine blk_put (cs := #[.slice Ao22 t635.length co22, .string t638, .slice none 0 0]) ?_ 2 _ rfl; (with_reducible repeat (first | refine blk_drewN ?_ _ | refine blk_drew ?_ | refine blk_alloc ?_ _)); refine blk_put (cs := #[.slice Ao22 t635.length co22, .string (⟨#[]⟩ : ByteArray), .slice none 0 0]) ?_ 1 _ rfl; (with_reducible repeat (first | refine blk_drewN ?_ _ | refine blk_drew ?_ | refine blk_alloc ?_ _)); refine blk_put (cs := #[.slice none 0 0, .string (⟨#[]⟩ : ByteArray), .slice none 0 0]) ?_ 0 _ rfl; (with_reducible repeat (first | refine blk_drewN ?_ _ | refine blk_drew ?_ | refine blk_alloc ?_ _)); exact BK643.out) hb); have n4_ := Aside0.mk (below_step qbi3 hb); clear HO637; clear HO641; clear BK630; clear BK643; clear HB; have HO637 := n0_; have HO641 := n1_; have BK630 := n2_; have BK643 := n3_; have HB := n4_; clear n0_ n1_ n2_ n3_ n4_; (try clear hb); (try clear hb2); (try clear hk); (try clear hi)))
      go_ret
      exact ⟨by first | rfl | (simp [errW_none, errW_some] <;> rfl) | (simp [*, errW_none, errW_some] <;> rfl), by repeat (first | (with_reducible first | exact HB.out | apply below_alloc | apply pw_below_drewN | apply below_drew1 | refine below_set ?_ GE630.out | refine below_set ?_ GE643.out) | exact HB.out)⟩
     ·
      rw [if_neg c16] at H
      exact absurd H (by simp)
    ·
     rw [if_neg c14] at H
     have c14b0 : (t634 == 0) = false := beq_eq_false_iff_ne.mpr c14
     have c14b1 : (t634 != 0) = true := bne_iff_ne.mpr c14
     obtain rfl := Option.some.inj H
     have hcz28_0 := bc0 BK630.out
     have hcz28_1 := bc1 BK630.out
     have hcz28_2 := bc2 BK630.out
     have hfz28_0 := blk_frozen BK630.out 0
     have hfz28_1 := blk_frozen BK630.out 1
     have hfz28_2 := blk_frozen BK630.out 2
     go_wp2_with (first | ((with_reducible refine gate_callee (f := 9) rfl ?_); refine goesL_ (some 18) rfl rfl Tryz.func9 (by kernel_rfl) rfl #[.agg #[.slice A0_0 l0_0.length c0_0, .string a0_1, .slice A0_2 l0_2.length c0_2]] rfl qbi11 ?_; (with_reducible refine (line_Write.calls kj2 _ _ l0_0 a0_1 _ _ l0_2 t633 t634 _ ?side1 ?side2 ?side3 ?side4 ?side5 ?side6 ?side7 ?side8 ?side9 A13.out).mono ?_); (case side1 => exact qbi8); (case side2 => exact HC0_0.out); (case side3 => exact qbi9); (case side4 => exact HC0_2.out); (case side5 => exact qbi2); (case side6 => exact qbi4); (case side7 => exact qbi5); (case side8 => exact qbi7); (case side9 => exact qbi6); rintro e w29 ⟨rfl, hb⟩; refine ⟨_, rfl, ?_⟩; have n0_ := Aside0.mk (blk_below (g := gb630) (o := .cells #[.slice A0_0 l0_0.length c0_0, .string a0_1, .slice A0_2 l0_2.length c0_2] 25 (0, 0)) qbi13 hb); have n1_ := Aside0.mk (below_step qbi10 hb); clear BK630; clear HB; have BK630 := n0_; have HB := n1_; clear n0_ n1_; (try clear hb); (try clear hb2); (try clear hk); (try clear hi)))
     go_ret
     exact ⟨by first | rfl | (simp [errW_none, errW_some] <;> rfl) | (simp [*, errW_none, errW_some] <;> rfl), by repeat (first | (with_reducible first | exact HB.out | apply below_alloc | apply pw_below_drewN | apply below_drew1 | refine below_set ?_ GE630.out) | exact HB.out)⟩

def quoinlaw17_LineBack.Pure : Prop := ∀ (l0_0 : List ByteArray) (a0_1 : ByteArray) (l0_2 : List (S40)), (l0_0.length ≤ maxLen ∧ ∀ x0_ ∈ l0_0, x0_.size ≤ maxLen) → a0_1.size ≤ maxLen → (l0_2.length ≤ maxLen ∧ ∀ x0_ ∈ l0_2, wfS40 x0_) → ∃ k, quoinlaw17_LineBack.f k l0_0 a0_1 l0_2 = some true
theorem quoinlaw17_LineBack.walk (P : quoinlaw17_LineBack.Pure) (A0_0 : Option Addr) (c0_0 : Nat) (l0_0 : List ByteArray) (a0_1 : ByteArray) (A0_2 : Option Addr) (c0_2 : Nat) (l0_2 : List (S40)) (w : World) (hr0_0 : Kd.C Kd.string w A0_0 l0_0.length l0_0) (hc0_0 : l0_0.length ≤ c0_0) (hr0_2 : Kd.C k40 w A0_2 l0_2.length l0_2) (hc0_2 : l0_2.length ≤ c0_2) (hT : Lib.TabIs Tryz.prog w "internal/strconv.uint64pow10" .u64 Lib.pow10Tab) (hD : LexW.LexD w) (hE : LexW.LexE w) (hM : ExW.ModsAt w) (hG : LiW.RegsAt w) (w0_0 : (l0_0.length ≤ maxLen ∧ ∀ x0_ ∈ l0_0, x0_.size ≤ maxLen)) (w0_1 : a0_1.size ≤ maxLen) (w0_2 : (l0_2.length ≤ maxLen ∧ ∀ x0_ ∈ l0_2, wfS40 x0_)) :
  Calls Tryz.prog 5 #[.agg #[.slice A0_0 l0_0.length c0_0, .string a0_1, .slice A0_2 l0_2.length c0_2]] w fun e w' => e = .returned (.bool true) ∧ Below w.heap.size w w' := by
 obtain ⟨k, h⟩ := P l0_0 a0_1 l0_2 w0_0 w0_1 w0_2
 refine (quoinlaw17_LineBack.calls k A0_0 c0_0 l0_0 a0_1 A0_2 c0_2 l0_2 true w hr0_0 hc0_0 hr0_2 hc0_2 hT hD hE hM hG h).mono ?_
 rintro e w' ⟨rfl, hd⟩
 exact ⟨rfl, hd⟩

end Go.Proofs.YtbfndlfemhidaaaGreatDoor.P
