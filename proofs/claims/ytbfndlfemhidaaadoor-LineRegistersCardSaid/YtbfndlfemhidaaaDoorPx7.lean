/- Texts of this seat in one (Px7), what nothing speaks of left out: by pack.py, a program of this session. -/
import Derived.Test.YtbfndlfemhidaaaDoorPx0
import Derived.Test.YtbfndlfemhidaaaDoorPx2
import Derived.Test.YtbfndlfemhidaaaDoorPx3
namespace Go.Proofs.YtbfndlfemhidaaaDoor.P
open Go.RowKit Go.Proofs.YtbfndlfemhidaaaDoorW.PrintWords Go.Proofs.YtbfndlfemhidaaaDoorW.PrintLast Go.Proofs.YtbfndlfemhidaaaDoorW.PrintMore
attribute [local go_sem] max2_int min2_int max_two min_two max_three min_three max_four min_four   -- for this text's walks alone
set_option linter.unusedVariables false
set_option linter.unusedSimpArgs false

def line_sum.f (a0_0 : ByteArray) (a0_1 : ByteArray) (a0_2 : Int) (a0_3 : Int) : Option (Bool) := (line_Register.f a0_0).bind fun bt132 => (if a0_3 > 0 then (some true) else (some (bt132.2 != 0)))
set_option maxHeartbeats 8000000 in
set_option maxRecDepth 100000 in
theorem line_sum.calls (a0_0 : ByteArray) (a0_1 : ByteArray) (a0_2 : Int) (a0_3 : Int) (r : Bool) (w : World) (hT : Lib.TabIs Tryd.prog w "internal/strconv.uint64pow10" .u64 Lib.pow10Tab) (hG : LiW.RegsAt w) (h : line_sum.f a0_0 a0_1 a0_2 a0_3 = some r) :
  Calls Tryd.prog 37 #[.agg #[.string a0_0, .string a0_1, .int .i64 a0_2, .int .u8 a0_3]] w fun e w' => e = .returned (.bool r) ∧ Below w.heap.size w w' := by
 have hu30 := Tryd.underlying30
 have HT := Aside0.mk hT
 clear hT
 have HG_ := Aside0.mk hG
 clear hG
 have HB := Aside0.mk (Below.refl w.heap.size w)
 have H : ((line_Register.f a0_0).bind fun bt132 => (if a0_3 > 0 then (some true) else (some (bt132.2 != 0)))) = some r := h
 clear h
 replace H := Option.bind_eq_some_iff.mp H
 obtain ⟨⟨t132, t133⟩, A20, H⟩ := H
 replace H : (if a0_3 > 0 then (some true) else (some (t133 != 0))) = some r := H
 have A2 := Aside0.mk A20
 clear A20
 by_cases c3 : a0_3 > 0
 ·
  rw [if_pos c3] at H
  have c3b0 : decide (0 < a0_3) = true := decide_eq_true c3
  clear c3
  obtain rfl := Option.some.inj H
  go_enter Tryd.func37, Tryd.ntmps37
  go_wp2_with (first | ((with_reducible refine gate_dst (N := 1) rfl ?_); refine box_event ?hg (N := 1) ?hd (cs := #[.string a0_0, .string a0_1, .int .i64 a0_2, .int .u8 a0_3]) (t := 30) ?hr ?_; (case hd => rfl); (case hg => rfl); (case hr => first | (go_simp; done) | (go_simp; rfl)); intro gb131 hg w4 hbox hb; have n0_ := Aside0.mk (below_step (by repeat (first | (with_reducible first | exact HB.out | apply below_alloc | apply pw_below_drewN | apply below_drew1) | exact HB.out)) hb); have n1_ := Aside0.mk (hbox); have n2_ := Aside0.mk ((by rw [hg]; exact (below_size (by repeat (first | (with_reducible first | exact HB.out | apply below_alloc | apply pw_below_drewN | apply below_drew1) | exact HB.out))) : w.heap.size ≤ gb131)); have n3_ := Aside0.mk ((by rw [hg]; exact (below_size (by repeat (first | (with_reducible first | exact HB.out | apply below_alloc | apply pw_below_drewN | apply below_drew1) | exact HB.out))) : w.heap.size ≤ gb131)); clear HB; have HB := n0_; have BK131 := n1_; have GW131 := n2_; have GE131 := n3_; clear n0_ n1_ n2_ n3_; clear hb hbox hg; have hcz5_0 : w4.cell? ⟨gb131, 0, none⟩ = some (.string a0_0) := (blk_cell BK131.out 0).trans rfl; have hcz5_1 : w4.cell? ⟨gb131, 1, none⟩ = some (.string a0_1) := (blk_cell BK131.out 1).trans rfl; have hcz5_2 : w4.cell? ⟨gb131, 2, none⟩ = some (.int .i64 a0_2) := (blk_cell BK131.out 2).trans rfl; have hcz5_3 : w4.cell? ⟨gb131, 3, none⟩ = some (.int .u8 a0_3) := (blk_cell BK131.out 3).trans rfl; have hfz5_0 := blk_frozen BK131.out 0; have hfz5_1 := blk_frozen BK131.out 1; have hfz5_2 := blk_frozen BK131.out 2; have hfz5_3 := blk_frozen BK131.out 3) | ((with_reducible refine gate_callee (f := 6) rfl ?_); refine goesL_ (some 8) rfl rfl Tryd.func6 (by kernel_rfl) rfl #[.string a0_0] rfl (by (try simp only [List.map_toArray, List.map_cons, List.map_nil]); first | done | rfl | (simp only [List.length_drop, List.length_take]; rfl)) ?_; (with_reducible refine (line_Register.calls a0_0 t132 t133 _ ?side1 ?side2 A2.out).mono ?_); (case side1 => exact Lib.tabBelow_of_tabIs HT.out _ (by repeat (first | (with_reducible first | exact HB.out | apply below_alloc | apply pw_below_drewN | apply below_drew1 | refine below_set ?_ GE131.out) | exact HB.out))); (case side2 => exact HG_.out.below (by repeat (first | (with_reducible first | exact HB.out | apply below_alloc | apply pw_below_drewN | apply below_drew1 | refine below_set ?_ GE131.out) | exact HB.out))); rintro e w6 ⟨rfl, hb⟩; refine ⟨_, rfl, ?_⟩; have n0_ := Aside0.mk (blk_below (g := gb131) (o := .cells #[.string a0_0, .string a0_1, .int .i64 a0_2, .int .u8 a0_3] 30 (0, 0)) (by (with_reducible repeat (first | refine blk_drewN ?_ _ | refine blk_drew ?_ | refine blk_alloc ?_ _)); exact BK131.out) hb); have n1_ := Aside0.mk (below_step (by repeat (first | (with_reducible first | exact HB.out | apply below_alloc | apply pw_below_drewN | apply below_drew1 | refine below_set ?_ GE131.out) | exact HB.out)) hb); clear BK131; clear HB; have BK131 := n0_; have HB := n1_; clear n0_ n1_; (try clear hb); (try clear hb2); (try clear hk); (try clear hi); have hcz7_0 : w6.cell? ⟨gb131, 0, none⟩ = some (.string a0_0) := (blk_cell BK131.out 0).trans rfl; have hcz7_1 : w6.cell? ⟨gb131, 1, none⟩ = some (.string a0_1) := (blk_cell BK131.out 1).trans rfl; have hcz7_2 : w6.cell? ⟨gb131, 2, none⟩ = some (.int .i64 a0_2) := (blk_cell BK131.out 2).trans rfl; have hcz7_3 : w6.cell? ⟨gb131, 3, none⟩ = some (.int .u8 a0_3) := (blk_cell BK131.out 3).trans rfl; have hfz7_0 := blk_frozen BK131.out 0; have hfz7_1 := blk_frozen BK131.out 1; have hfz7_2 := blk_frozen BK131.out 2; have hfz7_3 := blk_frozen BK131.out 3))
  go_ret
  exact ⟨by first | rfl | (simp [errW_none, errW_some] <;> rfl) | (simp [*, errW_none, errW_some] <;> rfl), by repeat (first | (with_reducible first | exact HB.out | apply below_alloc | apply pw_below_drewN | apply below_drew1 | refine below_set ?_ GE131.out) | exact HB.out)⟩
 ·
  rw [if_neg c3] at H
  have c3b0 : decide (0 < a0_3) = false := decide_eq_false c3
  clear c3
  obtain rfl := Option.some.inj H
  go_enter Tryd.func37, Tryd.ntmps37
  go_wp2_with (first | ((with_reducible refine gate_dst (N := 1) rfl ?_); refine box_event ?hg (N := 1) ?hd (cs := #[.string a0_0, .string a0_1, .int .i64 a0_2, .int .u8 a0_3]) (t := 30) ?hr ?_; (case hd => rfl); (case hg => rfl); (case hr => first | (go_simp; done) | (go_simp; rfl)); intro gb131 hg w8 hbox hb; have n0_ := Aside0.mk (below_step (by repeat (first | (with_reducible first | exact HB.out | apply below_alloc | apply pw_below_drewN | apply below_drew1) | exact HB.out)) hb); have n1_ := Aside0.mk (hbox); have n2_ := Aside0.mk ((by rw [hg]; exact (below_size (by repeat (first | (with_reducible first | exact HB.out | apply below_alloc | apply pw_below_drewN | apply below_drew1) | exact HB.out))) : w.heap.size ≤ gb131)); have n3_ := Aside0.mk ((by rw [hg]; exact (below_size (by repeat (first | (with_reducible first | exact HB.out | apply below_alloc | apply pw_below_drewN | apply below_drew1) | exact HB.out))) : w.heap.size ≤ gb131)); clear HB; have HB := n0_; have BK131 := n1_; have GW131 := n2_; have GE131 := n3_; clear n0_ n1_ n2_ n3_; clear hb hbox hg; have hcz9_0 : w8.cell? ⟨gb131, 0, none⟩ = some (.string a0_0) := (blk_cell BK131.out 0).trans rfl; have hcz9_1 : w8.cell? ⟨gb131, 1, none⟩ = some (.string a0_1) := (blk_cell BK131.out 1).trans rfl; have hcz9_2 : w8.cell? ⟨gb131, 2, none⟩ = some (.int .i64 a0_2) := (blk_cell BK131.out 2).trans rfl; have hcz9_3 : w8.cell? ⟨gb131, 3, none⟩ = some (.int .u8 a0_3) := (blk_cell BK131.out 3).trans rfl; have hfz9_0 := blk_frozen BK131.out 0; have hfz9_1 := blk_frozen BK131.out 1; have hfz9_2 := blk_frozen BK131.out 2; have hfz9_3 := blk_frozen BK131.out 3) | ((with_reducible refine gate_callee (f := 6) rfl ?_); refine goesL_ (some 8) rfl rfl Tryd.func6 (by kernel_rfl) rfl #[.string a0_0] rfl (by (try simp only [List.map_toArray, List.map_cons, List.map_nil]); first | done | rfl | (simp only [List.length_drop, List.length_take]; rfl)) ?_; (with_reducible refine (line_Register.calls a0_0 t132 t133 _ ?side1 ?side2 A2.out).mono ?_); (case side1 => exact Lib.tabBelow_of_tabIs HT.out _ (by repeat (first | (with_reducible first | exact HB.out | apply below_alloc | apply pw_below_drewN | apply below_drew1 | refine below_set ?_ GE131.out) | exact HB.out))); (case side2 => exact HG_.out.below (by repeat (first | (with_reducible first | exact HB.out | apply below_alloc | apply pw_below_drewN | apply below_drew1 | refine below_set ?_ GE131.out) | exact HB.out))); rintro e w10 ⟨rfl, hb⟩; refine ⟨_, rfl, ?_⟩; have n0_ := Aside0.mk (blk_below (g := gb131) (o := .cells #[.string a0_0, .string a0_1, .int .i64 a0_2, .int .u8 a0_3] 30 (0, 0)) (by (with_reducible repeat (first | refine blk_drewN ?_ _ | refine blk_drew ?_ | refine blk_alloc ?_ _)); exact BK131.out) hb); have n1_ := Aside0.mk (below_step (by repeat (first | (with_reducible first | exact HB.out | apply below_alloc | apply pw_below_drewN | apply below_drew1 | refine below_set ?_ GE131.out) | exact HB.out)) hb); clear BK131; clear HB; have BK131 := n0_; have HB := n1_; clear n0_ n1_; (try clear hb); (try clear hb2); (try clear hk); (try clear hi); have hcz11_0 : w10.cell? ⟨gb131, 0, none⟩ = some (.string a0_0) := (blk_cell BK131.out 0).trans rfl; have hcz11_1 : w10.cell? ⟨gb131, 1, none⟩ = some (.string a0_1) := (blk_cell BK131.out 1).trans rfl; have hcz11_2 : w10.cell? ⟨gb131, 2, none⟩ = some (.int .i64 a0_2) := (blk_cell BK131.out 2).trans rfl; have hcz11_3 : w10.cell? ⟨gb131, 3, none⟩ = some (.int .u8 a0_3) := (blk_cell BK131.out 3).trans rfl; have hfz11_0 := blk_frozen BK131.out 0; have hfz11_1 := blk_frozen BK131.out 1; have hfz11_2 := blk_frozen BK131.out 2; have hfz11_3 := blk_frozen BK131.out 3))
  go_ret
  exact ⟨by first | rfl | (simp [errW_none, errW_some] <;> rfl) | (simp [*, errW_none, errW_some] <;> rfl), by repeat (first | (with_reducible first | exact HB.out | apply below_alloc | apply pw_below_drewN | apply below_drew1 | refine below_set ?_ GE131.out) | exact HB.out)⟩


section
open Go.Proofs.YtbfndlfemhidaaaDoor.Lex
attribute [local go_sem high] eqA53
namespace LD
structure RD (w0 W : World) (g : Nat) (A : Option Addr) (c : Nat) (l : List S53) (a : Nat) : Prop where
  blk : W.heap[g]? = some (.cells #[.slice A l.length c, .int .i64 (a : Int)] 49 (0, 0))
  ge : w0.heap.size ≤ g
  bel : Below w0.heap.size w0 W
  row : Kd.C k53 w0 A l.length l
  cap : l.length ≤ c
theorem RD.drewN {w0 W : World} {g c a : Nat} {A : Option Addr} {l : List S53} (h : RD w0 W g A c l a) (n : Nat) : RD w0 (W.drewN n) g A c l a := ⟨blk_drewN h.blk n, h.ge, pw_below_drewN h.bel n, h.row, h.cap⟩
theorem RD.drew {w0 W : World} {g c a : Nat} {A : Option Addr} {l : List S53} (h : RD w0 W g A c l a) : RD w0 W.drew g A c l a := ⟨blk_drew h.blk, h.ge, below_drew1 h.bel, h.row, h.cap⟩
theorem RD.below {w0 W W1 : World} {g c a : Nat} {A : Option Addr} {l : List S53} (h : RD w0 W g A c l a) (hb : Below W.heap.size W W1) : RD w0 W1 g A c l a := ⟨blk_below h.blk hb, h.ge, below_step h.bel hb, h.row, h.cap⟩
theorem RD.seti {w0 W : World} {g c a : Nat} {A : Option Addr} {l : List S53} (h : RD w0 W g A c l a) (a' : Nat) : RD w0 (W.setCell ⟨g, 1, none⟩ (.int .i64 (a' : Int))) g A c l a' := ⟨blk_put h.blk 1 _ rfl, h.ge, below_set h.bel h.ge, h.row, h.cap⟩
theorem RD.cell0 {w0 W : World} {g c a : Nat} {A : Option Addr} {l : List S53} (h : RD w0 W g A c l a) : W.cell? ⟨g, 0, none⟩ = some (.slice A l.length c) := (blk_cell h.blk 0).trans rfl
theorem RD.cell1 {w0 W : World} {g c a : Nat} {A : Option Addr} {l : List S53} (h : RD w0 W g A c l a) : W.cell? ⟨g, 1, none⟩ = some (.int .i64 (a : Int)) := (blk_cell h.blk 1).trans rfl
structure FR (W W' : World) (g : Nat) : Prop where
  size : W.heap.size ≤ W'.heap.size
  keep : ∀ k, k < W.heap.size → k ≠ g → W'.heap[k]? = W.heap[k]?
theorem FR.same {W W' : World} {g : Nat} (h : W'.heap = W.heap) : FR W W' g := ⟨by rw [h]; exact Nat.le_refl _, fun _ _ _ => by rw [h]⟩
theorem FR.of_below {W W' : World} {g : Nat} (h : Below W.heap.size W W') : FR W W' g := ⟨h.size, fun k hk _ => h.block k hk⟩
theorem FR.trans {W W1 W2 : World} {g : Nat} (h : FR W W1 g) (k : FR W1 W2 g) : FR W W2 g := ⟨Nat.le_trans h.size k.size, fun b hb hn => (k.keep b (Nat.lt_of_lt_of_le hb h.size) hn).trans (h.keep b hb hn)⟩
theorem FR.set {W W1 : World} {g : Nat} (h : FR W W1 g) (j : Nat) (v : Value) : FR W (W1.setCell ⟨g, j, none⟩ v) g := ⟨Nat.le_trans h.size (Nat.le_of_eq (by simp)), fun b hb hn => (Below.heap_setCell W1 ⟨g, j, none⟩ v b hn).trans (h.keep b hb hn)⟩
theorem FR.blk {W W' : World} {g p : Nat} {o : Obj} (h : FR W W' g) (hb : W.heap[p]? = some o) (hn : p ≠ g) : W'.heap[p]? = some o := (h.keep p (blk_lt hb) hn).trans hb
theorem rdk (l : List S53) (i : Nat) (h : i < l.length) : rd_T53 l (i : Int) = l[i] := by
  simp [rd_T53, List.getD, List.getElem?_eq_getElem h]
theorem RD.tok {w0 W : World} {g c a : Nat} {A : Option Addr} {l : List S53} (h : RD w0 W g A c l a) (i : Nat) (hi : i < l.length) :
    ∃ ad, A = some ad ∧ W.cell? (ad.add (i * 3)) = some (.int .u8 l[i].f0) ∧ W.cell? ⟨(ad.add (i * 3)).block, (ad.add (i * 3)).off + 1, none⟩ = some (.string l[i].f1) ∧ W.cell? ⟨(ad.add (i * 3)).block, (ad.add (i * 3)).off + 2, none⟩ = some (.int .i64 l[i].f2) := by
  obtain ⟨ad, e0, hx0, hx1, hx2⟩ := at_T53 h.row (i : Int) (by omega) (by omega)
  rw [rdk l i hi] at hx0 hx1 hx2
  simp only [Int.toNat_natCast] at hx0 hx1 hx2
  exact ⟨ad, e0, pw_cell_below h.bel hx0, pw_cell_below h.bel hx1, pw_cell_below h.bel hx2⟩
def markB (l : List S53) (i : Nat) (c : UInt8) : Bool := match l[i]? with | some t => (t.f0 == 4 && (t.f1.toList == [c] && t.f2 == 0)) | none => false
set_option maxHeartbeats 4000000 in
set_option maxRecDepth 100000 in
theorem end_walk (w0 W : World) (g : Nat) (A : Option Addr) (c : Nat) (l : List S53) (a : Nat) (h : RD w0 W g A c l a) (b : Bool) (hb : decide (l.length ≤ a) = b) :
    Calls Tryd.prog 15 #[.pointer (some ⟨g, 0, none⟩)] W fun e W' => e = .returned (.bool b) ∧ Drawn0 W W' := by
  have c0 := h.cell0
  have c1 := h.cell1
  clear h
  go_enter Tryd.func15, Tryd.ntmps15
  go_wp2
  go_quiet (fail)
  go_wp2
  go_ret
  exact ⟨rfl, nq, rfl⟩
set_option maxHeartbeats 4000000 in
set_option maxRecDepth 100000 in
theorem is_out (w0 W : World) (g : Nat) (A : Option Addr) (c : Nat) (l : List S53) (a : Nat) (j I : Int) (s : ByteArray) (hw : wrap64 ((a : Int) + j) = I) (h : RD w0 W g A c l a) (hlt : ¬ I < (l.length : Int)) :
    Calls Tryd.prog 20 #[.pointer (some ⟨g, 0, none⟩), .int .i64 j, .string s] W fun e W' => e = .returned (.bool false) ∧ Drawn0 W W' := by
  have c0 := h.cell0
  have c1 := h.cell1
  have hw2 : IntKind.i64.wrap ((a : Int) + j) = I := (i64_w _).trans hw
  have d0 : decide (I < (l.length : Int)) = false := decide_eq_false hlt
  clear h hlt
  go_enter Tryd.func20, Tryd.ntmps20
  go_wp2
  repeat (go_quiet (fail); try go_wp2)
  go_ret
  exact ⟨rfl, nq, rfl⟩
set_option maxHeartbeats 4000000 in
set_option maxRecDepth 100000 in
theorem is_in (w0 W : World) (g : Nat) (A : Option Addr) (c : Nat) (l : List S53) (a : Nat) (j I : Int) (s : ByteArray) (hw : wrap64 ((a : Int) + j) = I) (h : RD w0 W g A c l a) (h0 : 0 ≤ I) (hlt : I < (l.length : Int)) :
    Calls Tryd.prog 20 #[.pointer (some ⟨g, 0, none⟩), .int .i64 j, .string s] W fun e W' => e = .returned (.bool ((rd_T53 l I).f0 == 4 && ((rd_T53 l I).f1.toList == s.toList && (rd_T53 l I).f2 == 0))) ∧ Drawn0 W W' := by
  have c0 := h.cell0
  have c1 := h.cell1
  have hw2 : IntKind.i64.wrap ((a : Int) + j) = I := (i64_w _).trans hw
  have d0 : decide (I < (l.length : Int)) = true := decide_eq_true hlt
  obtain ⟨ad, e0, x0, x1, x2⟩ := at_T53 h.row I h0 hlt
  cases e0
  replace x0 := pw_cell_below h.bel x0
  replace x1 := pw_cell_below h.bel x1
  replace x2 := pw_cell_below h.bel x2
  have p0 := eq_true h0
  have q0 := eq_true hlt
  generalize rd_T53 l I = t at *
  clear h hlt h0
  go_enter Tryd.func20, Tryd.ntmps20
  go_wp2
  repeat (go_quiet (fail); try go_wp2)
  go_ret
  exact ⟨rfl, nq, rfl⟩
theorem markB_is (l : List S53) (i : Nat) (s : UInt8) (h : i < l.length) : ((rd_T53 l (i : Int)).f0 == 4 && ((rd_T53 l (i : Int)).f1.toList == (⟨#[s]⟩ : ByteArray).toList && (rd_T53 l (i : Int)).f2 == 0)) = markB l i s := by
  rw [rdk l i h]
  unfold markB
  rw [List.getElem?_eq_getElem h, show (⟨#[s]⟩ : ByteArray).toList = [s] by rw [ByteArray.toList_eq]]
theorem is_walk (w0 W : World) (g : Nat) (A : Option Addr) (c : Nat) (l : List S53) (a i : Nat) (j : Int) (s : UInt8) (hw : wrap64 ((a : Int) + j) = (i : Int)) (h : RD w0 W g A c l a) (b : Bool) (hb : markB l i s = b) :
    Calls Tryd.prog 20 #[.pointer (some ⟨g, 0, none⟩), .int .i64 j, .string ⟨#[s]⟩] W fun e W' => e = .returned (.bool b) ∧ Drawn0 W W' := by
  by_cases hlt : i < l.length
  · have := is_in w0 W g A c l a j (i : Int) ⟨#[s]⟩ hw h (by omega) (by omega)
    rw [markB_is l i s hlt, hb] at this
    exact this
  · have hf : b = false := by
      rw [← hb]
      unfold markB
      rw [List.getElem?_eq_none (by omega)]
    rw [hf]
    exact is_out w0 W g A c l a j (i : Int) ⟨#[s]⟩ hw h (by omega)
set_option maxHeartbeats 4000000 in
set_option maxRecDepth 100000 in
theorem register_end (w0 W : World) (g : Nat) (A : Option Addr) (c : Nat) (l : List S53) (a : Nat) (hl : l.length ≤ 1000000) (hT : Lib.TabIs Tryd.prog w0 "internal/strconv.uint64pow10" .u64 Lib.pow10Tab) (hG : LiW.RegsAt w0) (h : RD w0 W g A c l a) (hlt : ¬ a < l.length) :
    Calls Tryd.prog 35 #[.pointer (some ⟨g, 0, none⟩)] W fun e W' => e = .returned (.tuple #[.int .i64 0, .bool false]) ∧ RD w0 W' g A c l a ∧ FR W W' g := by
  have HR := Aside0.mk h
  have HT := Aside0.mk hT
  have HG := Aside0.mk hG
  have c0 := h.cell0
  have c1 := h.cell1
  have HE := Aside0.mk (show decide (l.length ≤ a) = true from decide_eq_true (by omega))
  clear h hl hT hG hlt
  go_enter Tryd.func35, Tryd.ntmps35
  go_wp2
  go_quiet (first | (go_at_call 15; (with_reducible refine (end_walk w0 _ g A c l a (HR.out.drewN _) true HE.out).mono ?_); rintro e w5 ⟨rfl, ⟨nd, rfl⟩⟩; first | exact ⟨rfl, _, World.drewN_drewN _ _ _⟩ | exact ⟨rfl, _, Eq.trans (World.drewN_drewN _ _ _) (congrArg (World.drewN _) (Nat.add_assoc _ _ _))⟩))
  have HR2 := Aside0.mk (HR.out.drewN nq)
  go_wp2
  go_ret2
  exact ⟨rfl, HR2.out, FR.same rfl⟩

set_option maxHeartbeats 4000000 in
set_option maxRecDepth 100000 in
theorem register_kind (w0 W : World) (g : Nat) (A : Option Addr) (c : Nat) (l : List S53) (a : Nat) (hl : l.length ≤ 1000000) (hT : Lib.TabIs Tryd.prog w0 "internal/strconv.uint64pow10" .u64 Lib.pow10Tab) (hG : LiW.RegsAt w0) (h : RD w0 W g A c l a) (hlt : a < l.length) (hk : ¬ l[a].f0 = 1) :
    Calls Tryd.prog 35 #[.pointer (some ⟨g, 0, none⟩)] W fun e W' => e = .returned (.tuple #[.int .i64 0, .bool false]) ∧ RD w0 W' g A c l a ∧ FR W W' g := by
  have HR := Aside0.mk h
  have HT := Aside0.mk hT
  have HG := Aside0.mk hG
  have c0 := h.cell0
  have c1 := h.cell1
  obtain ⟨ad, rfl, x0, x1, x2⟩ := h.tok a hlt
  have HE := Aside0.mk (show decide (l.length ≤ a) = false from decide_eq_false (by omega))
  have p0 : (0 : Int) ≤ (a : Int) := by omega
  have q0 : (a : Int) < (l.length : Int) := by omega
  have hb1 : wrap64 ((a : Int) + 1) = ((a + 1 : Nat) : Int) := by unfold wrap64; omega
  generalize l[a] = t at *
  have n0 := eq_true p0
  have m0 := eq_true q0
  have k0 : (t.f0 != 1) = true := bne_iff_ne.2 hk
  clear h hl hT hG hlt hk
  go_enter Tryd.func35, Tryd.ntmps35
  go_wp2
  go_quiet (first | (go_at_call 15; (with_reducible refine (end_walk w0 _ g (some ad) c l a (HR.out.drewN _) false HE.out).mono ?_); rintro e w5 ⟨rfl, ⟨nd, rfl⟩⟩; first | exact ⟨rfl, _, World.drewN_drewN _ _ _⟩ | exact ⟨rfl, _, Eq.trans (World.drewN_drewN _ _ _) (congrArg (World.drewN _) (Nat.add_assoc _ _ _))⟩))
  have HR2 := Aside0.mk (HR.out.drewN nq)
  go_wp2
  go_ret2
  exact ⟨rfl, HR2.out, FR.same rfl⟩

set_option maxHeartbeats 4000000 in
set_option maxRecDepth 100000 in
theorem register_word (w0 W : World) (g : Nat) (A : Option Addr) (c : Nat) (l : List S53) (a : Nat) (hl : l.length ≤ 1000000) (hT : Lib.TabIs Tryd.prog w0 "internal/strconv.uint64pow10" .u64 Lib.pow10Tab) (hG : LiW.RegsAt w0) (h : RD w0 W g A c l a) (hlt : a < l.length) (hk : l[a].f0 = 1) (hs : l[a].f1.size ≤ 1000000) (o : Option Nat) (hr : Li.regL l[a].f1.data.toList = o) :
    Calls Tryd.prog 35 #[.pointer (some ⟨g, 0, none⟩)] W fun e W' => e = .returned (.tuple #[.int .i64 ((o.getD 0 : Nat) : Int), .bool o.isSome]) ∧ RD w0 W' g A c l (if o.isSome then a + 1 else a) ∧ FR W W' g := by
  have HR := Aside0.mk h
  have HT := Aside0.mk hT
  have HG := Aside0.mk hG
  have c0 := h.cell0
  have c1 := h.cell1
  obtain ⟨ad, rfl, x0, x1, x2⟩ := h.tok a hlt
  have HE := Aside0.mk (show decide (l.length ≤ a) = false from decide_eq_false (by omega))
  have p0 : (0 : Int) ≤ (a : Int) := by omega
  have q0 : (a : Int) < (l.length : Int) := by omega
  have hb1 : wrap64 ((a : Int) + 1) = ((a + 1 : Nat) : Int) := by unfold wrap64; omega
  generalize l[a] = t at *
  have n0 := eq_true p0
  have m0 := eq_true q0
  have k0 : (t.f0 != 1) = false := bne_eq_false_iff_eq.2 hk
  obtain ⟨V1, V2, hf, e1, e2⟩ : ∃ V1 V2, line_Register.f t.f1 = some (V1, V2) ∧ V1 = ((o.getD 0 : Nat) : Int) ∧ V2 = if o.isSome then 0 else 6 := ⟨_, _, by unfold line_Register.f LR.regV; rw [if_pos hs, hr]; cases o <;> rfl, rfl, rfl⟩
  have HF := Aside0.mk hf
  have E1 := Aside0.mk e1
  have E2 := Aside0.mk e2
  clear h hl hT hG hlt hk hs hr hf e1 e2
  go_enter Tryd.func35, Tryd.ntmps35
  go_wp2
  go_quiet (first | (go_at_call 15; (with_reducible refine (end_walk w0 _ g (some ad) c l a (HR.out.drewN _) false HE.out).mono ?_); rintro e w5 ⟨rfl, ⟨nd, rfl⟩⟩; first | exact ⟨rfl, _, World.drewN_drewN _ _ _⟩ | exact ⟨rfl, _, Eq.trans (World.drewN_drewN _ _ _) (congrArg (World.drewN _) (Nat.add_assoc _ _ _))⟩))
  have HR2 := Aside0.mk (HR.out.drewN nq)
  go_wp2
  have HR3 := Aside0.mk HR2.out.drew
  have hT3 := Lib.tabBelow_of_tabIs HT.out _ HR3.out.bel
  refine start_ (n := 17) (S := fun w' => w'.cell? ⟨g, 0, none⟩ = some (.slice (some ad) l.length c) ∧ w'.cell? ⟨g, 1, none⟩ = some (.int .i64 (a : Int)) ∧ w'.cell? ⟨(ad.add (a * 3)).block, (ad.add (a * 3)).off + 1, none⟩ = some (.string t.f1)) (ds := []) #[false, false, false, false, false, false, false, false, false, false, false, false, false, false, false, false, false] (by kernel_rfl) rfl rfl ⟨c0, c1, x1⟩ (fun hHeld => ?_)
  refine pure_ (i := 0) (N := some 23) (v := ?_) (a' := ?_) #[true, false, false, false, false, false, false, false, false, false, false, false, false, false, false, false, false] rfl rfl (by kernel_rfl) (fun _ _ _ h => h) (Or.inl ⟨by rfl, ?_⟩) ?_ ?_
  rotate_left
  · intro w'
    go_simp
    with_reducible rfl
  rotate_left
  · simp only [Act.put, List.setIfInBounds_toArray, List.set_cons_zero, List.set_cons_succ, i64_w, i32_w]
    rfl
  refine pure_ (i := 1) (N := some 24) (v := ?_) (a' := ?_) #[true, true, false, false, false, false, false, false, false, false, false, false, false, false, false, false, false] rfl rfl (by kernel_rfl) (fun _ _ _ h => h) (Or.inl ⟨by rfl, ?_⟩) ?_ ?_
  rotate_left
  · intro w'
    go_simp
    with_reducible rfl
  rotate_left
  · simp only [Act.put, List.setIfInBounds_toArray, List.set_cons_zero, List.set_cons_succ, i64_w, i32_w]
    rfl
  refine pure_ (i := 2) (N := some 25) (v := ?_) (a' := ?_) #[true, true, true, false, false, false, false, false, false, false, false, false, false, false, false, false, false] rfl rfl (by kernel_rfl) (fun _ _ _ h => h) (Or.inl ⟨by rfl, ?_⟩) ?_ ?_
  rotate_left
  · intro w'
    go_simp
    with_reducible rfl
  rotate_left
  · simp only [Act.put, List.setIfInBounds_toArray, List.set_cons_zero, List.set_cons_succ, i64_w, i32_w]
    rfl
  refine pure_ (i := 4) (N := some 27) (v := ?_) (a' := ?_) #[true, true, true, false, true, false, false, false, false, false, false, false, false, false, false, false, false] rfl rfl (by kernel_rfl) (fun _ _ _ h => h) (Or.inl ⟨by rfl, ?_⟩) ?_ ?_
  rotate_left
  · intro w'
    go_simp
    with_reducible rfl
  rotate_left
  · simp only [Act.put, List.setIfInBounds_toArray, List.set_cons_zero, List.set_cons_succ, i64_w, i32_w]
    rfl
  refine pure_ (i := 5) (N := some 28) (v := ?_) (a' := ?_) #[true, true, true, false, true, true, false, false, false, false, false, false, false, false, false, false, false] rfl rfl (by kernel_rfl) (fun _ _ _ h => h) (Or.inl ⟨by rfl, ?_⟩) ?_ ?_
  rotate_left
  · intro w'
    go_simp
    with_reducible rfl
  rotate_left
  · simp only [Act.put, List.setIfInBounds_toArray, List.set_cons_zero, List.set_cons_succ, i64_w, i32_w]
    rfl
  refine pure_ (i := 6) (N := some 29) (v := ?_) (a' := ?_) #[true, true, true, false, true, true, true, false, false, false, false, false, false, false, false, false, false] rfl rfl (by kernel_rfl) (fun _ _ _ h => h) (Or.inl ⟨by rfl, ?_⟩) ?_ ?_
  rotate_left
  · intro w'
    go_simp
    with_reducible rfl
  rotate_left
  · simp only [Act.put, List.setIfInBounds_toArray, List.set_cons_zero, List.set_cons_succ, i64_w, i32_w]
    rfl
  refine take_ (i := 3) (N := some 26) (v := ?_) (a' := ?_) #[true, true, true, true, true, true, true, false, false, false, false, false, false, false, false, false, false] rfl rfl (by kernel_rfl) (fun _ _ _ h => h) (Or.inl ⟨by rfl, ?_⟩) hHeld ?_ ?_
  rotate_left
  · rintro w' ⟨s0, s1, s2⟩
    go_simp
    with_reducible rfl
  rotate_left
  · simp only [Act.put, List.setIfInBounds_toArray, List.set_cons_zero, List.set_cons_succ, i64_w, i32_w]
    rfl
  refine take_ (i := 7) (N := some 30) (v := ?_) (a' := ?_) #[true, true, true, true, true, true, true, true, false, false, false, false, false, false, false, false, false] rfl rfl (by kernel_rfl) (fun _ _ _ h => h) (Or.inl ⟨by rfl, ?_⟩) hHeld ?_ ?_
  rotate_left
  · rintro w' ⟨s0, s1, s2⟩
    go_simp
    with_reducible rfl
  rotate_left
  · simp only [Act.put, List.setIfInBounds_toArray, List.set_cons_zero, List.set_cons_succ, i64_w, i32_w]
    rfl
  refine pure_ (i := 8) (N := some 31) (v := ?_) (a' := ?_) #[true, true, true, true, true, true, true, true, true, false, false, false, false, false, false, false, false] rfl rfl (by kernel_rfl) (fun _ _ _ h => h) (Or.inl ⟨by rfl, ?_⟩) ?_ ?_
  rotate_left
  · intro w'
    go_simp
    with_reducible rfl
  rotate_left
  · simp only [Act.put, List.setIfInBounds_toArray, List.set_cons_zero, List.set_cons_succ, i64_w, i32_w]
    rfl
  refine pure_ (i := 9) (N := some 32) (v := ?_) (a' := ?_) #[true, true, true, true, true, true, true, true, true, true, false, false, false, false, false, false, false] rfl rfl (by kernel_rfl) (fun _ _ _ h => h) (Or.inl ⟨by rfl, ?_⟩) ?_ ?_
  rotate_left
  · intro w'
    go_simp
    with_reducible rfl
  rotate_left
  · simp only [Act.put, List.setIfInBounds_toArray, List.set_cons_zero, List.set_cons_succ, i64_w, i32_w]
    rfl
  refine take_ (i := 10) (N := some 33) (v := ?_) (a' := ?_) #[true, true, true, true, true, true, true, true, true, true, true, false, false, false, false, false, false] rfl rfl (by kernel_rfl) (fun _ _ _ h => h) (Or.inl ⟨by rfl, ?_⟩) hHeld ?_ ?_
  rotate_left
  · rintro w' ⟨s0, s1, s2⟩
    go_simp
    with_reducible rfl
  rotate_left
  · simp only [Act.put, List.setIfInBounds_toArray, List.set_cons_zero, List.set_cons_succ, i64_w, i32_w]
    rfl
  refine one_ (i := 11) (N := some 34) #[true, true, true, true, true, true, true, true, true, true, true, true, false, false, false, false, false] rfl rfl (by kernel_rfl) (by decide) (fun K hK => ?_)
  refine goes_ Tryd.func6 (by kernel_rfl) rfl #[.string t.f1] (by rfl) rfl rfl (by simp only [List.map_toArray, List.map_cons, List.map_nil]; rfl) ?_
  with_reducible refine (line_Register.calls t.f1 _ _ _ hT3 (HG.out.below HR3.out.bel) HF.out).mono ?_
  rintro e w6 ⟨rfl, hb⟩
  refine ⟨_, rfl, ?_⟩
  have HR4 := Aside0.mk (HR3.out.below hb)
  have F4 : Aside0 (FR W w6 g) := ⟨⟨hb.size, fun k hk _ => hb.block k hk⟩⟩
  refine hK.out _ _ ⟨((hb.cell (World.block_lt_of_cell? _ _ hHeld.1)).trans hHeld.1), ((hb.cell (World.block_lt_of_cell? _ _ hHeld.2.1)).trans hHeld.2.1), ((hb.cell (World.block_lt_of_cell? _ _ hHeld.2.2)).trans hHeld.2.2)⟩ (fun hHeld => ?_)
  clear hK K
  refine norm_ (a' := ?_) ?_ ?_
  rotate_left
  · show Act.put _ (some 34) _ = _
    simp only [Act.put, List.setIfInBounds_toArray, List.set_cons_zero, List.set_cons_succ, i64_w, i32_w]
    rfl
  refine pure_ (i := 12) (N := some 22) (v := ?_) (a' := ?_) #[true, true, true, true, true, true, true, true, true, true, true, true, true, false, false, false, false] rfl rfl (by kernel_rfl) (fun _ _ _ h => h) (Or.inl ⟨by rfl, ?_⟩) ?_ ?_
  rotate_left
  · intro w'
    go_simp
    with_reducible rfl
  rotate_left
  · simp only [Act.put, List.setIfInBounds_toArray, List.set_cons_zero, List.set_cons_succ, i64_w, i32_w]
    rfl
  refine pure_ (i := 13) (N := some 35) (v := ?_) (a' := ?_) #[true, true, true, true, true, true, true, true, true, true, true, true, true, true, false, false, false] rfl rfl (by kernel_rfl) (fun _ _ _ h => h) (Or.inl ⟨by rfl, ?_⟩) ?_ ?_
  rotate_left
  · intro w'
    go_simp
    with_reducible rfl
  rotate_left
  · simp only [Act.put, List.setIfInBounds_toArray, List.set_cons_zero, List.set_cons_succ, i64_w, i32_w]
    rfl
  refine pure_ (i := 14) (N := some 36) (v := ?_) (a' := ?_) #[true, true, true, true, true, true, true, true, true, true, true, true, true, true, true, false, false] rfl rfl (by kernel_rfl) (fun _ _ _ h => h) (Or.inl ⟨by rfl, ?_⟩) ?_ ?_
  rotate_left
  · intro w'
    go_simp
    with_reducible rfl
  rotate_left
  · simp only [Act.put, List.setIfInBounds_toArray, List.set_cons_zero, List.set_cons_succ, i64_w, i32_w]
    rfl
  refine pure_ (i := 15) (N := some 4) (v := ?_) (a' := ?_) #[true, true, true, true, true, true, true, true, true, true, true, true, true, true, true, true, false] rfl rfl (by kernel_rfl) (fun _ _ _ h => h) (Or.inl ⟨by rfl, ?_⟩) ?_ ?_
  rotate_left
  · intro w'
    go_simp
    with_reducible rfl
  rotate_left
  · simp only [Act.put, List.setIfInBounds_toArray, List.set_cons_zero, List.set_cons_succ, i64_w, i32_w]
    rfl
  refine pure_ (i := 16) (N := some 5) (v := ?_) (a' := ?_) #[true, true, true, true, true, true, true, true, true, true, true, true, true, true, true, true, true] rfl rfl (by kernel_rfl) (fun _ _ _ h => h) (Or.inl ⟨by rfl, ?_⟩) ?_ ?_
  rotate_left
  · intro w'
    go_simp
    with_reducible rfl
  rotate_left
  · simp only [Act.put, List.setIfInBounds_toArray, List.set_cons_zero, List.set_cons_succ, i64_w, i32_w]
    rfl
  refine done_ (by kernel_rfl) ?_
  have y1 := HR4.out.cell1
  have yf := blk_frozen HR4.out.blk 1
  cases o with
  | none =>
    have z : (V2 == 0) = false := by rw [E2.out]; rfl
    go_wp2
    go_ret2
    exact ⟨by rw [E1.out]; rfl, HR4.out, F4.out⟩
  | some n =>
    have z : (V2 == 0) = true := by rw [E2.out]; rfl
    go_wp2
    go_ret2
    exact ⟨by rw [E1.out]; rfl, HR4.out.seti (a + 1), F4.out.set _ _⟩
def regAt (l : List S53) (a : Nat) : Option Nat := match l[a]? with | some t => if t.f0 = 1 then Li.regL t.f1.data.toList else none | none => none
theorem register_walk (w0 W : World) (g : Nat) (A : Option Addr) (c : Nat) (l : List S53) (a : Nat) (hl : l.length ≤ 1000000) (hs : ∀ x ∈ l, x.f1.size ≤ 1000000) (hT : Lib.TabIs Tryd.prog w0 "internal/strconv.uint64pow10" .u64 Lib.pow10Tab) (hG : LiW.RegsAt w0) (h : RD w0 W g A c l a) (o : Option Nat) (ho : regAt l a = o) :
    Calls Tryd.prog 35 #[.pointer (some ⟨g, 0, none⟩)] W fun e W' => e = .returned (.tuple #[.int .i64 ((o.getD 0 : Nat) : Int), .bool o.isSome]) ∧ RD w0 W' g A c l (if o.isSome then a + 1 else a) ∧ FR W W' g := by
  by_cases hlt : a < l.length
  · have e : regAt l a = if l[a].f0 = 1 then Li.regL l[a].f1.data.toList else none := by
      unfold regAt
      rw [List.getElem?_eq_getElem hlt]
    by_cases hk : l[a].f0 = 1
    · rw [if_pos hk] at e
      exact register_word w0 W g A c l a hl hT hG h hlt hk (hs _ (List.getElem_mem hlt)) o (e.symm.trans ho)
    · rw [if_neg hk] at e
      obtain rfl : o = none := by rw [← ho, e]
      exact register_kind w0 W g A c l a hl hT hG h hlt hk
  · obtain rfl : o = none := by
      rw [← ho]
      unfold regAt
      rw [List.getElem?_eq_none (by omega)]
    exact register_end w0 W g A c l a hl hT hG h hlt
def byAt (l : List S53) (a : Nat) : Option Nat := match regAt l (a + 1) with | some n => if markB l (a + 2) 41 then some n else none | none => none
set_option maxHeartbeats 4000000 in
set_option maxRecDepth 100000 in
theorem by_walk (w0 W : World) (g : Nat) (A : Option Addr) (c : Nat) (l : List S53) (a : Nat) (hl : l.length ≤ 1000000) (ha : a ≤ 1000000) (hs : ∀ x ∈ l, x.f1.size ≤ 1000000) (hT : Lib.TabIs Tryd.prog w0 "internal/strconv.uint64pow10" .u64 Lib.pow10Tab) (hG : LiW.RegsAt w0) (h : RD w0 W g A c l a) (o : Option Nat) (ho : byAt l a = o) :
    Calls Tryd.prog 38 #[.pointer (some ⟨g, 0, none⟩)] W fun e W' => e = .returned (.tuple #[.int .i64 ((o.getD 0 : Nat) : Int), .int .i64 (if o.isSome then 0 else 170)]) ∧ FR W W' g ∧ ∃ a', RD w0 W' g A c l a' ∧ (o.isSome = true → a' = a + 3) := by
  have HR := Aside0.mk h
  have HT := Aside0.mk hT
  have HG := Aside0.mk hG
  have HL := Aside0.mk hl
  have HS := Aside0.mk hs
  have c1 := h.cell1
  have f1 := blk_frozen h.blk 1
  unfold byAt at ho
  obtain ⟨a1, e1⟩ : ∃ x, x = a + 1 := ⟨_, rfl⟩
  obtain ⟨a2, e2⟩ : ∃ x, x = a + 2 := ⟨_, rfl⟩
  obtain ⟨a3, e3⟩ : ∃ x, x = a + 3 := ⟨_, rfl⟩
  have hb1 : wrap64 ((a : Int) + 1) = (a1 : Int) := by unfold wrap64; omega
  have hb2 : wrap64 ((a2 : Int) + 1) = (a3 : Int) := by unfold wrap64; omega
  have hb3 : wrap64 ((a2 : Int) + 0) = (a2 : Int) := by unfold wrap64; omega
  have E12 := Aside0.mk (show a1 + 1 = a2 by omega)
  have E3 := Aside0.mk e3
  rw [← e1, ← e2] at ho
  clear e1 e2 e3
  clear h hT hG hl hs ha
  cases hr : regAt l a1 with
  | none =>
    rw [hr] at ho
    subst ho
    have HQ := Aside0.mk hr
    clear hr
    go_enter Tryd.func38, Tryd.ntmps38
    go_wp2_with (first | (go_at_call 35; (with_reducible refine (register_walk w0 _ g A c l a1 HL.out HS.out HT.out HG.out (HR.out.seti a1) none HQ.out).mono ?_); rintro e w2 ⟨rfl, hp, hf⟩; have F2 := Aside0.mk (((FR.same rfl : FR W W g).set 1 (.int .i64 (a1 : Int))).trans hf); have HR2 := Aside0.mk hp; clear hp hf))
    go_ret2
    first | exact ⟨rfl, F2.out, _, HR2.out, fun e => by cases e⟩ | exact ⟨rfl, F2.out, _, HR2.out⟩
  | some n =>
    rw [hr] at ho
    simp only at ho
    have HQ := Aside0.mk hr
    clear hr
    cases hm : markB l a2 41 with
    | false =>
      rw [hm, if_neg (by simp)] at ho
      subst ho
      have HM := Aside0.mk hm
      clear hm
      go_enter Tryd.func38, Tryd.ntmps38
      go_wp2_with (first | (go_at_call 35; (with_reducible refine (register_walk w0 _ g A c l a1 HL.out HS.out HT.out HG.out (HR.out.seti a1) (some n) HQ.out).mono ?_); rintro e w2 ⟨rfl, hp, hf⟩; have F2 := Aside0.mk (((FR.same rfl : FR W W g).set 1 (.int .i64 (a1 : Int))).trans hf); have HR2 := Aside0.mk (show RD w0 w2 g A c l a2 from E12.out ▸ hp); clear hp hf) | (go_at_call 20; (with_reducible refine (is_walk w0 _ g A c l a2 a2 0 41 hb3 HR2.out false HM.out).mono ?_); rintro e w3 ⟨rfl, ⟨nd, rfl⟩⟩))
      go_ret2
      first | exact ⟨rfl, F2.out.trans (FR.same (W' := w2.drewN nd) rfl), _, HR2.out.drewN nd, fun e => by cases e⟩ | exact ⟨rfl, F2.out.trans (FR.same (W' := w2.drewN nd) rfl), _, HR2.out.drewN nd⟩
    | true =>
      rw [hm, if_pos rfl] at ho
      subst ho
      have HM := Aside0.mk hm
      clear hm
      go_enter Tryd.func38, Tryd.ntmps38
      go_wp2_with (first | (go_at_call 35; (with_reducible refine (register_walk w0 _ g A c l a1 HL.out HS.out HT.out HG.out (HR.out.seti a1) (some n) HQ.out).mono ?_); rintro e w2 ⟨rfl, hp, hf⟩; have F2 := Aside0.mk (((FR.same rfl : FR W W g).set 1 (.int .i64 (a1 : Int))).trans hf); have HR2 := Aside0.mk (show RD w0 w2 g A c l a2 from E12.out ▸ hp); have y1 := HR2.out.cell1; have yf := blk_frozen HR2.out.blk 1; clear hp hf) | (go_at_call 20; (with_reducible refine (is_walk w0 _ g A c l a2 a2 0 41 hb3 HR2.out true HM.out).mono ?_); rintro e w3 ⟨rfl, ⟨nd, rfl⟩⟩))
      go_ret2
      first | exact ⟨rfl, FR.set (F2.out.trans (FR.same (W' := w2.drewN nd) rfl)) _ _, _, (HR2.out.drewN nd).seti a3, fun _ => E3.out⟩ | exact ⟨rfl, FR.set (F2.out.trans (FR.same (W' := w2.drewN nd) rfl)) _ _, by rw [← E3.out]; exact (HR2.out.drewN nd).seti a3⟩
end LD
end

end Go.Proofs.YtbfndlfemhidaaaDoor.P
