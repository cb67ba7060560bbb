/- Texts of this seat in one (Px12), what nothing speaks of left out: by pack.py, a program of this session. -/
import Derived.Test.YtbfndlfemhidaaaGreatDoorPx0
import Derived.Test.YtbfndlfemhidaaaGreatDoorPx2
import Derived.Test.YtbfndlfemhidaaaGreatDoorPx5
import Derived.Test.YtbfndlfemhidaaaGreatDoorPx11
namespace Go.Proofs.YtbfndlfemhidaaaGreatDoor.P
open Go.RowKit Go.Proofs.YtbfndlfemhidaaaGreatDoor.LexP Go.Proofs.YtbfndlfemhidaaaGreatDoorW.PrintWords Go.Proofs.YtbfndlfemhidaaaGreatDoorW.PrintLast Go.Proofs.YtbfndlfemhidaaaGreatDoorW.PrintMore
theorem qbe1 {P : Prop} (h : P := by first | (go_simp; done) | (go_simp; rfl)) : P := h
theorem qbe0 {P : Prop} (h : P := by simp only [List.map_toArray, List.map_cons, List.map_nil]; rfl) : P := h
attribute [local go_sem] max2_int min2_int max_two min_two max_three min_three max_four min_four   -- for this text's walks alone
set_option linter.unusedVariables false
set_option linter.unusedSimpArgs false


section
open Go.Proofs.YtbfndlfemhidaaaGreatDoor.Lex
attribute [local go_sem high] eqA61
namespace LD
structure RD (w0 W : World) (g : Nat) (A : Option Addr) (c : Nat) (l : List S61) (a : Nat) : Prop where
 blk : W.heap[g]? = some (.cells #[.slice A l.length c, .int .i64 (a : Int)] 57 (0, 0))
 ge : w0.heap.size ≤ g
 bel : Below w0.heap.size w0 W
 row : Kd.C k61 w0 A l.length l
 cap : l.length ≤ c
theorem RD.drewN {w0 W : World} {g c a : Nat} {A : Option Addr} {l : List S61} (h : RD w0 W g A c l a) (n : Nat) : RD w0 (W.drewN n) g A c l a := ⟨blk_drewN h.blk n, h.ge, pw_below_drewN h.bel n, h.row, h.cap⟩
theorem RD.drew {w0 W : World} {g c a : Nat} {A : Option Addr} {l : List S61} (h : RD w0 W g A c l a) : RD w0 W.drew g A c l a := ⟨blk_drew h.blk, h.ge, below_drew1 h.bel, h.row, h.cap⟩
theorem RD.below {w0 W W1 : World} {g c a : Nat} {A : Option Addr} {l : List S61} (h : RD w0 W g A c l a) (hb : Below W.heap.size W W1) : RD w0 W1 g A c l a := ⟨blk_below h.blk hb, h.ge, below_step h.bel hb, h.row, h.cap⟩
theorem RD.seti {w0 W : World} {g c a : Nat} {A : Option Addr} {l : List S61} (h : RD w0 W g A c l a) (a' : Nat) : RD w0 (W.setCell ⟨g, 1, none⟩ (.int .i64 (a' : Int))) g A c l a' := ⟨blk_put h.blk 1 _ rfl, h.ge, below_set h.bel h.ge, h.row, h.cap⟩
theorem RD.cell0 {w0 W : World} {g c a : Nat} {A : Option Addr} {l : List S61} (h : RD w0 W g A c l a) : W.cell? ⟨g, 0, none⟩ = some (.slice A l.length c) := (blk_cell h.blk 0).trans rfl
theorem RD.cell1 {w0 W : World} {g c a : Nat} {A : Option Addr} {l : List S61} (h : RD w0 W g A c l a) : W.cell? ⟨g, 1, none⟩ = some (.int .i64 (a : Int)) := (blk_cell h.blk 1).trans rfl
structure FR (W W' : World) (g : Nat) : Prop where
 size : W.heap.size ≤ W'.heap.size
 keep : ∀ k, k < W.heap.size → k ≠ g → W'.heap[k]? = W.heap[k]?
theorem FR.same {W W' : World} {g : Nat} (h : W'.heap = W.heap) : FR W W' g := ⟨by rw [h]; exact Nat.le_refl _, fun _ _ _ => by rw [h]⟩
theorem FR.of_below {W W' : World} {g : Nat} (h : Below W.heap.size W W') : FR W W' g := ⟨h.size, fun k hk _ => h.block k hk⟩
theorem FR.trans {W W1 W2 : World} {g : Nat} (h : FR W W1 g) (k : FR W1 W2 g) : FR W W2 g := ⟨Nat.le_trans h.size k.size, fun b hb hn => (k.keep b (Nat.lt_of_lt_of_le hb h.size) hn).trans (h.keep b hb hn)⟩
theorem FR.set {W W1 : World} {g : Nat} (h : FR W W1 g) (j : Nat) (v : Value) : FR W (W1.setCell ⟨g, j, none⟩ v) g := ⟨Nat.le_trans h.size (Nat.le_of_eq (by simp)), fun b hb hn => (Below.heap_setCell W1 ⟨g, j, none⟩ v b hn).trans (h.keep b hb hn)⟩
theorem FR.blk {W W' : World} {g p : Nat} {o : Obj} (h : FR W W' g) (hb : W.heap[p]? = some o) (hn : p ≠ g) : W'.heap[p]? = some o := (h.keep p (blk_lt hb) hn).trans hb
theorem rdk (l : List S61) (i : Nat) (h : i < l.length) : rd_T61 l (i : Int) = l[i] := by
 simp [rd_T61, List.getD, List.getElem?_eq_getElem h]
theorem RD.tok {w0 W : World} {g c a : Nat} {A : Option Addr} {l : List S61} (h : RD w0 W g A c l a) (i : Nat) (hi : i < l.length) :
  ∃ ad, A = some ad ∧ W.cell? (ad.add (i * 3)) = some (.int .u8 l[i].f0) ∧ W.cell? ⟨(ad.add (i * 3)).block, (ad.add (i * 3)).off + 1, none⟩ = some (.string l[i].f1) ∧ W.cell? ⟨(ad.add (i * 3)).block, (ad.add (i * 3)).off + 2, none⟩ = some (.int .i64 l[i].f2) := by
 obtain ⟨ad, e0, hx0, hx1, hx2⟩ := at_T61 h.row (i : Int) (by omega) (by omega)
 rw [rdk l i hi] at hx0 hx1 hx2
 simp only [Int.toNat_natCast] at hx0 hx1 hx2
 exact ⟨ad, e0, pw_cell_below h.bel hx0, pw_cell_below h.bel hx1, pw_cell_below h.bel hx2⟩
def markB (l : List S61) (i : Nat) (c : UInt8) : Bool := match l[i]? with | some t => (t.f0 == 4 && (t.f1.toList == [c] && t.f2 == 0)) | none => false
set_option maxHeartbeats 4000000 in
set_option maxRecDepth 100000 in
theorem end_walk (w0 W : World) (g : Nat) (A : Option Addr) (c : Nat) (l : List S61) (a : Nat) (h : RD w0 W g A c l a) (b : Bool) (hb : decide (l.length ≤ a) = b) :
  Calls Tryz.prog 27 #[.pointer (some ⟨g, 0, none⟩)] W fun e W' => e = .returned (.bool b) ∧ Drawn0 W W' := by
 have c0 := h.cell0
 have c1 := h.cell1
 clear h
 go_enter Tryz.func27, Tryz.ntmps27
 go_wp2
 go_quiet (fail)
 go_wp2
 go_ret
 exact ⟨rfl, nq, rfl⟩
set_option maxHeartbeats 4000000 in
set_option maxRecDepth 100000 in
theorem is_out (w0 W : World) (g : Nat) (A : Option Addr) (c : Nat) (l : List S61) (a : Nat) (j I : Int) (s : ByteArray) (hw : wrap64 ((a : Int) + j) = I) (h : RD w0 W g A c l a) (hlt : ¬ I < (l.length : Int)) :
  Calls Tryz.prog 44 #[.pointer (some ⟨g, 0, none⟩), .int .i64 j, .string s] W fun e W' => e = .returned (.bool false) ∧ Drawn0 W W' := by
 have c0 := h.cell0
 have c1 := h.cell1
 have hw2 : IntKind.i64.wrap ((a : Int) + j) = I := (i64_w _).trans hw
 have d0 : decide (I < (l.length : Int)) = false := decide_eq_false hlt
 clear h hlt
 go_enter Tryz.func44, Tryz.ntmps44
 go_wp2
 repeat (go_quiet (fail); try go_wp2)
 go_ret
 exact ⟨rfl, nq, rfl⟩
set_option maxHeartbeats 4000000 in
set_option maxRecDepth 100000 in
theorem is_in (w0 W : World) (g : Nat) (A : Option Addr) (c : Nat) (l : List S61) (a : Nat) (j I : Int) (s : ByteArray) (hw : wrap64 ((a : Int) + j) = I) (h : RD w0 W g A c l a) (h0 : 0 ≤ I) (hlt : I < (l.length : Int)) :
  Calls Tryz.prog 44 #[.pointer (some ⟨g, 0, none⟩), .int .i64 j, .string s] W fun e W' => e = .returned (.bool ((rd_T61 l I).f0 == 4 && ((rd_T61 l I).f1.toList == s.toList && (rd_T61 l I).f2 == 0))) ∧ Drawn0 W W' := by
 have c0 := h.cell0
 have c1 := h.cell1
 have hw2 : IntKind.i64.wrap ((a : Int) + j) = I := (i64_w _).trans hw
 have d0 : decide (I < (l.length : Int)) = true := decide_eq_true hlt
 obtain ⟨ad, e0, x0, x1, x2⟩ := at_T61 h.row I h0 hlt
 cases e0
 replace x0 := pw_cell_below h.bel x0
 replace x1 := pw_cell_below h.bel x1
 replace x2 := pw_cell_below h.bel x2
 have p0 := eq_true h0
 have q0 := eq_true hlt
 generalize rd_T61 l I = t at *
 clear h hlt h0
 go_enter Tryz.func44, Tryz.ntmps44
 go_wp2
 repeat (go_quiet (fail); try go_wp2)
 go_ret
 exact ⟨rfl, nq, rfl⟩
theorem markB_is (l : List S61) (i : Nat) (s : UInt8) (h : i < l.length) : ((rd_T61 l (i : Int)).f0 == 4 && ((rd_T61 l (i : Int)).f1.toList == (⟨#[s]⟩ : ByteArray).toList && (rd_T61 l (i : Int)).f2 == 0)) = markB l i s := by
 rw [rdk l i h]
 unfold markB
 rw [List.getElem?_eq_getElem h, show (⟨#[s]⟩ : ByteArray).toList = [s] by rw [ByteArray.toList_eq]]
theorem is_walk (w0 W : World) (g : Nat) (A : Option Addr) (c : Nat) (l : List S61) (a i : Nat) (j : Int) (s : UInt8) (hw : wrap64 ((a : Int) + j) = (i : Int)) (h : RD w0 W g A c l a) (b : Bool) (hb : markB l i s = b) :
  Calls Tryz.prog 44 #[.pointer (some ⟨g, 0, none⟩), .int .i64 j, .string ⟨#[s]⟩] W fun e W' => e = .returned (.bool b) ∧ Drawn0 W W' := by
 by_cases hlt : i < l.length
 ·
  have := is_in w0 W g A c l a j (i : Int) ⟨#[s]⟩ hw h (by omega) (by omega)
  rw [markB_is l i s hlt, hb] at this
  exact this
 ·
  have hf : b = false := by
   rw [← hb]
   unfold markB
   rw [List.getElem?_eq_none (by omega)]
  rw [hf]
  exact is_out w0 W g A c l a j (i : Int) ⟨#[s]⟩ hw h (by omega)
set_option maxHeartbeats 4000000 in
set_option maxRecDepth 100000 in
theorem register_end (w0 W : World) (g : Nat) (A : Option Addr) (c : Nat) (l : List S61) (a : Nat) (hl : l.length ≤ 1000000) (hT : Lib.TabIs Tryz.prog w0 "internal/strconv.uint64pow10" .u64 Lib.pow10Tab) (hG : LiW.RegsAt w0) (h : RD w0 W g A c l a) (hlt : ¬ a < l.length) :
  Calls Tryz.prog 80 #[.pointer (some ⟨g, 0, none⟩)] W fun e W' => e = .returned (.tuple #[.int .i64 0, .bool false]) ∧ RD w0 W' g A c l a ∧ FR W W' g := by
 have HR := Aside0.mk h
 have HT := Aside0.mk hT
 have HG := Aside0.mk hG
 have c0 := h.cell0
 have c1 := h.cell1
 have HE := Aside0.mk (show decide (l.length ≤ a) = true from decide_eq_true (by omega))
 clear h hl hT hG hlt
 go_enter Tryz.func80, Tryz.ntmps80
 go_wp2
 go_quiet (first | (go_at_call 27; (with_reducible refine (end_walk w0 _ g A c l a (HR.out.drewN _) true HE.out).mono ?_); rintro e w5 ⟨rfl, ⟨nd, rfl⟩⟩; first | exact ⟨rfl, _, World.drewN_drewN _ _ _⟩ | exact ⟨rfl, _, Eq.trans (World.drewN_drewN _ _ _) (congrArg (World.drewN _) (Nat.add_assoc _ _ _))⟩))
 have HR2 := Aside0.mk (HR.out.drewN nq)
 go_wp2
 go_ret2
 exact ⟨rfl, HR2.out, FR.same rfl⟩

set_option maxHeartbeats 4000000 in
set_option maxRecDepth 100000 in
theorem register_kind (w0 W : World) (g : Nat) (A : Option Addr) (c : Nat) (l : List S61) (a : Nat) (hl : l.length ≤ 1000000) (hT : Lib.TabIs Tryz.prog w0 "internal/strconv.uint64pow10" .u64 Lib.pow10Tab) (hG : LiW.RegsAt w0) (h : RD w0 W g A c l a) (hlt : a < l.length) (hk : ¬ l[a].f0 = 1) :
  Calls Tryz.prog 80 #[.pointer (some ⟨g, 0, none⟩)] W fun e W' => e = .returned (.tuple #[.int .i64 0, .bool false]) ∧ RD w0 W' g A c l a ∧ FR W W' g := by
 have HR := Aside0.mk h
 have HT := Aside0.mk hT
 have HG := Aside0.mk hG
 have c0 := h.cell0
 have c1 := h.cell1
 obtain ⟨ad, rfl, x0, x1, x2⟩ := h.tok a hlt
 have HE := Aside0.mk (show decide (l.length ≤ a) = false from decide_eq_false (by omega))
 have p0 : (0 : Int) ≤ (a : Int) := by omega
 have q0 : (a : Int) < (l.length : Int) := by omega
 have hb1 : wrap64 ((a : Int) + 1) = ((a + 1 : Nat) : Int) := by unfold wrap64; omega
 generalize l[a] = t at *
 have n0 := eq_true p0
 have m0 := eq_true q0
 have k0 : (t.f0 != 1) = true := bne_iff_ne.2 hk
 clear h hl hT hG hlt hk
 go_enter Tryz.func80, Tryz.ntmps80
 go_wp2
 go_quiet (first | (go_at_call 27; (with_reducible refine (end_walk w0 _ g (some ad) c l a (HR.out.drewN _) false HE.out).mono ?_); rintro e w5 ⟨rfl, ⟨nd, rfl⟩⟩; first | exact ⟨rfl, _, World.drewN_drewN _ _ _⟩ | exact ⟨rfl, _, Eq.trans (World.drewN_drewN _ _ _) (congrArg (World.drewN _) (Nat.add_assoc _ _ _))⟩))
 have HR2 := Aside0.mk (HR.out.drewN nq)
 go_wp2
 go_ret2
 exact ⟨rfl, HR2.out, FR.same rfl⟩

set_option maxHeartbeats 4000000 in
set_option maxRecDepth 100000 in
theorem register_word (w0 W : World) (g : Nat) (A : Option Addr) (c : Nat) (l : List S61) (a : Nat) (hl : l.length ≤ 1000000) (hT : Lib.TabIs Tryz.prog w0 "internal/strconv.uint64pow10" .u64 Lib.pow10Tab) (hG : LiW.RegsAt w0) (h : RD w0 W g A c l a) (hlt : a < l.length) (hk : l[a].f0 = 1) (hs : l[a].f1.size ≤ 1000000) (o : Option Nat) (hr : Li.regL l[a].f1.data.toList = o) :
  Calls Tryz.prog 80 #[.pointer (some ⟨g, 0, none⟩)] W fun e W' => e = .returned (.tuple #[.int .i64 ((o.getD 0 : Nat) : Int), .bool o.isSome]) ∧ RD w0 W' g A c l (if o.isSome then a + 1 else a) ∧ FR W W' g := by
 have HR := Aside0.mk h
 have HT := Aside0.mk hT
 have HG := Aside0.mk hG
 have c0 := h.cell0
 have c1 := h.cell1
 obtain ⟨ad, rfl, x0, x1, x2⟩ := h.tok a hlt
 have HE := Aside0.mk (show decide (l.length ≤ a) = false from decide_eq_false (by omega))
 have p0 : (0 : Int) ≤ (a : Int) := by omega
 have q0 : (a : Int) < (l.length : Int) := by omega
 have hb1 : wrap64 ((a : Int) + 1) = ((a + 1 : Nat) : Int) := by unfold wrap64; omega
 generalize l[a] = t at *
 have n0 := eq_true p0
 have m0 := eq_true q0
 have k0 : (t.f0 != 1) = false := bne_eq_false_iff_eq.2 hk
 obtain ⟨V1, V2, hf, e1, e2⟩ : ∃ V1 V2, line_Register.f t.f1 = some (V1, V2) ∧ V1 = ((o.getD 0 : Nat) : Int) ∧ V2 = if o.isSome then 0 else 6 := ⟨_, _, by unfold line_Register.f LR.regV; rw [if_pos hs, hr]; cases o <;> rfl, rfl, rfl⟩
 have HF := Aside0.mk hf
 have E1 := Aside0.mk e1
 have E2 := Aside0.mk e2
 clear h hl hT hG hlt hk hs hr hf e1 e2
 go_enter Tryz.func80, Tryz.ntmps80
 go_wp2
 go_quiet (first | (go_at_call 27; (with_reducible refine (end_walk w0 _ g (some ad) c l a (HR.out.drewN _) false HE.out).mono ?_); rintro e w5 ⟨rfl, ⟨nd, rfl⟩⟩; first | exact ⟨rfl, _, World.drewN_drewN _ _ _⟩ | exact ⟨rfl, _, Eq.trans (World.drewN_drewN _ _ _) (congrArg (World.drewN _) (Nat.add_assoc _ _ _))⟩))
 have HR2 := Aside0.mk (HR.out.drewN nq)
 go_wp2
 have HR3 := Aside0.mk HR2.out.drew
 have hT3 := Lib.tabBelow_of_tabIs HT.out _ HR3.out.bel
 refine start_ (n := 17) (S := fun w' => w'.cell? ⟨g, 0, none⟩ = some (.slice (some ad) l.length c) ∧ w'.cell? ⟨g, 1, none⟩ = some (.int .i64 (a : Int)) ∧ w'.cell? ⟨(ad.add (a * 3)).block, (ad.add (a * 3)).off + 1, none⟩ = some (.string t.f1)) (ds := []) #[false, false, false, false, false, false, false, false, false, false, false, false, false, false, false, false, false] (by kernel_rfl) rfl rfl ⟨c0, c1, x1⟩ (fun hHeld => ?_)
 refine pure_ (i := 0) (N := some 23) (v := ?_) (a' := ?_) #[true, false, false, false, false, false, false, false, false, false, false, false, false, false, false, false, false] rfl rfl (by kernel_rfl) (fun _ _ _ h => h) (Or.inl ⟨by rfl, ?_⟩) ?_ ?_
 rotate_left
 ·
  intro w'
  go_simp
  with_reducible rfl
 rotate_left
 ·
  simp only [Act.put, List.setIfInBounds_toArray, List.set_cons_zero, List.set_cons_succ, i64_w, i32_w]
  rfl
 refine pure_ (i := 1) (N := some 24) (v := ?_) (a' := ?_) #[true, true, false, false, false, false, false, false, false, false, false, false, false, false, false, false, false] rfl rfl (by kernel_rfl) (fun _ _ _ h => h) (Or.inl ⟨by rfl, ?_⟩) ?_ ?_
 rotate_left
 ·
  intro w'
  go_simp
  with_reducible rfl
 rotate_left
 ·
  simp only [Act.put, List.setIfInBounds_toArray, List.set_cons_zero, List.set_cons_succ, i64_w, i32_w]
  rfl
 refine pure_ (i := 2) (N := some 25) (v := ?_) (a' := ?_) #[true, true, true, false, false, false, false, false, false, false, false, false, false, false, false, false, false] rfl rfl (by kernel_rfl) (fun _ _ _ h => h) (Or.inl ⟨by rfl, ?_⟩) ?_ ?_
 rotate_left
 ·
  intro w'
  go_simp
  with_reducible rfl
 rotate_left
 ·
  simp only [Act.put, List.setIfInBounds_toArray, List.set_cons_zero, List.set_cons_succ, i64_w, i32_w]
  rfl
 refine pure_ (i := 4) (N := some 27) (v := ?_) (a' := ?_) #[true, true, true, false, true, false, false, false, false, false, false, false, false, false, false, false, false] rfl rfl (by kernel_rfl) (fun _ _ _ h => h) (Or.inl ⟨by rfl, ?_⟩) ?_ ?_
 rotate_left
 ·
  intro w'
  go_simp
  with_reducible rfl
 rotate_left
 ·
  simp only [Act.put, List.setIfInBounds_toArray, List.set_cons_zero, List.set_cons_succ, i64_w, i32_w]
  rfl
 refine pure_ (i := 5) (N := some 28) (v := ?_) (a' := ?_) #[true, true, true, false, true, true, false, false, false, false, false, false, false, false, false, false, false] rfl rfl (by kernel_rfl) (fun _ _ _ h => h) (Or.inl ⟨by rfl, ?_⟩) ?_ ?_
 rotate_left
 ·
  intro w'
  go_simp
  with_reducible rfl
 rotate_left
 ·
  simp only [Act.put, List.setIfInBounds_toArray, List.set_cons_zero, List.set_cons_succ, i64_w, i32_w]
  rfl
 refine pure_ (i := 6) (N := some 29) (v := ?_) (a' := ?_) #[true, true, true, false, true, true, true, false, false, false, false, false, false, false, false, false, false] rfl rfl (by kernel_rfl) (fun _ _ _ h => h) (Or.inl ⟨by rfl, ?_⟩) ?_ ?_
 rotate_left
 ·
  intro w'
  go_simp
  with_reducible rfl
 rotate_left
 ·
  simp only [Act.put, List.setIfInBounds_toArray, List.set_cons_zero, List.set_cons_succ, i64_w, i32_w]
  rfl
 refine take_ (i := 3) (N := some 26) (v := ?_) (a' := ?_) #[true, true, true, true, true, true, true, false, false, false, false, false, false, false, false, false, false] rfl rfl (by kernel_rfl) (fun _ _ _ h => h) (Or.inl ⟨by rfl, ?_⟩) hHeld ?_ ?_
 rotate_left
 ·
  rintro w' ⟨s0, s1, s2⟩
  go_simp
  with_reducible rfl
 rotate_left
 ·
  simp only [Act.put, List.setIfInBounds_toArray, List.set_cons_zero, List.set_cons_succ, i64_w, i32_w]
  rfl
 refine take_ (i := 7) (N := some 30) (v := ?_) (a' := ?_) #[true, true, true, true, true, true, true, true, false, false, false, false, false, false, false, false, false] rfl rfl (by kernel_rfl) (fun _ _ _ h => h) (Or.inl ⟨by rfl, ?_⟩) hHeld ?_ ?_
 rotate_left
 ·
  rintro w' ⟨s0, s1, s2⟩
  go_simp
  with_reducible rfl
 rotate_left
 ·
  simp only [Act.put, List.setIfInBounds_toArray, List.set_cons_zero, List.set_cons_succ, i64_w, i32_w]
  rfl
 refine pure_ (i := 8) (N := some 31) (v := ?_) (a' := ?_) #[true, true, true, true, true, true, true, true, true, false, false, false, false, false, false, false, false] rfl rfl (by kernel_rfl) (fun _ _ _ h => h) (Or.inl ⟨by rfl, ?_⟩) ?_ ?_
 rotate_left
 ·
  intro w'
  go_simp
  with_reducible rfl
 rotate_left
 ·
  simp only [Act.put, List.setIfInBounds_toArray, List.set_cons_zero, List.set_cons_succ, i64_w, i32_w]
  rfl
 refine pure_ (i := 9) (N := some 32) (v := ?_) (a' := ?_) #[true, true, true, true, true, true, true, true, true, true, false, false, false, false, false, false, false] rfl rfl (by kernel_rfl) (fun _ _ _ h => h) (Or.inl ⟨by rfl, ?_⟩) ?_ ?_
 rotate_left
 ·
  intro w'
  go_simp
  with_reducible rfl
 rotate_left
 ·
  simp only [Act.put, List.setIfInBounds_toArray, List.set_cons_zero, List.set_cons_succ, i64_w, i32_w]
  rfl
 refine take_ (i := 10) (N := some 33) (v := ?_) (a' := ?_) #[true, true, true, true, true, true, true, true, true, true, true, false, false, false, false, false, false] rfl rfl (by kernel_rfl) (fun _ _ _ h => h) (Or.inl ⟨by rfl, ?_⟩) hHeld ?_ ?_
 rotate_left
 ·
  rintro w' ⟨s0, s1, s2⟩
  go_simp
  with_reducible rfl
 rotate_left
 ·
  simp only [Act.put, List.setIfInBounds_toArray, List.set_cons_zero, List.set_cons_succ, i64_w, i32_w]
  rfl
 refine one_ (i := 11) (N := some 34) #[true, true, true, true, true, true, true, true, true, true, true, true, false, false, false, false, false] rfl rfl (by kernel_rfl) (by decide) (fun K hK => ?_)
 refine goes_ Tryz.func87 (by kernel_rfl) rfl #[.string t.f1] (by rfl) rfl rfl qbe0 ?_
 with_reducible refine (line_Register.calls t.f1 _ _ _ hT3 (HG.out.below HR3.out.bel) HF.out).mono ?_
 rintro e w6 ⟨rfl, hb⟩
 refine ⟨_, rfl, ?_⟩
 have HR4 := Aside0.mk (HR3.out.below hb)
 have F4 : Aside0 (FR W w6 g) := ⟨⟨hb.size, fun k hk _ => hb.block k hk⟩⟩
 refine hK.out _ _ ⟨((hb.cell (World.block_lt_of_cell? _ _ hHeld.1)).trans hHeld.1), ((hb.cell (World.block_lt_of_cell? _ _ hHeld.2.1)).trans hHeld.2.1), ((hb.cell (World.block_lt_of_cell? _ _ hHeld.2.2)).trans hHeld.2.2)⟩ (fun hHeld => ?_)
 clear hK K
 refine norm_ (a' := ?_) ?_ ?_
 rotate_left
 ·
  show Act.put _ (some 34) _ = _
  simp only [Act.put, List.setIfInBounds_toArray, List.set_cons_zero, List.set_cons_succ, i64_w, i32_w]
  rfl
 refine pure_ (i := 12) (N := some 22) (v := ?_) (a' := ?_) #[true, true, true, true, true, true, true, true, true, true, true, true, true, false, false, false, false] rfl rfl (by kernel_rfl) (fun _ _ _ h => h) (Or.inl ⟨by rfl, ?_⟩) ?_ ?_
 rotate_left
 ·
  intro w'
  go_simp
  with_reducible rfl
 rotate_left
 ·
  simp only [Act.put, List.setIfInBounds_toArray, List.set_cons_zero, List.set_cons_succ, i64_w, i32_w]
  rfl
 refine pure_ (i := 13) (N := some 35) (v := ?_) (a' := ?_) #[true, true, true, true, true, true, true, true, true, true, true, true, true, true, false, false, false] rfl rfl (by kernel_rfl) (fun _ _ _ h => h) (Or.inl ⟨by rfl, ?_⟩) ?_ ?_
 rotate_left
 ·
  intro w'
  go_simp
  with_reducible rfl
 rotate_left
 ·
  simp only [Act.put, List.setIfInBounds_toArray, List.set_cons_zero, List.set_cons_succ, i64_w, i32_w]
  rfl
 refine pure_ (i := 14) (N := some 36) (v := ?_) (a' := ?_) #[true, true, true, true, true, true, true, true, true, true, true, true, true, true, true, false, false] rfl rfl (by kernel_rfl) (fun _ _ _ h => h) (Or.inl ⟨by rfl, ?_⟩) ?_ ?_
 rotate_left
 ·
  intro w'
  go_simp
  with_reducible rfl
 rotate_left
 ·
  simp only [Act.put, List.setIfInBounds_toArray, List.set_cons_zero, List.set_cons_succ, i64_w, i32_w]
  rfl
 refine pure_ (i := 15) (N := some 4) (v := ?_) (a' := ?_) #[true, true, true, true, true, true, true, true, true, true, true, true, true, true, true, true, false] rfl rfl (by kernel_rfl) (fun _ _ _ h => h) (Or.inl ⟨by rfl, ?_⟩) ?_ ?_
 rotate_left
 ·
  intro w'
  go_simp
  with_reducible rfl
 rotate_left
 ·
  simp only [Act.put, List.setIfInBounds_toArray, List.set_cons_zero, List.set_cons_succ, i64_w, i32_w]
  rfl
 refine pure_ (i := 16) (N := some 5) (v := ?_) (a' := ?_) #[true, true, true, true, true, true, true, true, true, true, true, true, true, true, true, true, true] rfl rfl (by kernel_rfl) (fun _ _ _ h => h) (Or.inl ⟨by rfl, ?_⟩) ?_ ?_
 rotate_left
 ·
  intro w'
  go_simp
  with_reducible rfl
 rotate_left
 ·
  simp only [Act.put, List.setIfInBounds_toArray, List.set_cons_zero, List.set_cons_succ, i64_w, i32_w]
  rfl
 refine done_ (by kernel_rfl) ?_
 have y1 := HR4.out.cell1
 have yf := blk_frozen HR4.out.blk 1
 cases o with
 | none =>
  have z : (V2 == 0) = false := by rw [E2.out]; rfl
  go_wp2
  go_ret2
  exact ⟨by rw [E1.out]; rfl, HR4.out, F4.out⟩
 | some n =>
  have z : (V2 == 0) = true := by rw [E2.out]; rfl
  go_wp2
  go_ret2
  exact ⟨by rw [E1.out]; rfl, HR4.out.seti (a + 1), F4.out.set _ _⟩
def regAt (l : List S61) (a : Nat) : Option Nat := match l[a]? with | some t => if t.f0 = 1 then Li.regL t.f1.data.toList else none | none => none
theorem register_walk (w0 W : World) (g : Nat) (A : Option Addr) (c : Nat) (l : List S61) (a : Nat) (hl : l.length ≤ 1000000) (hs : ∀ x ∈ l, x.f1.size ≤ 1000000) (hT : Lib.TabIs Tryz.prog w0 "internal/strconv.uint64pow10" .u64 Lib.pow10Tab) (hG : LiW.RegsAt w0) (h : RD w0 W g A c l a) (o : Option Nat) (ho : regAt l a = o) :
  Calls Tryz.prog 80 #[.pointer (some ⟨g, 0, none⟩)] W fun e W' => e = .returned (.tuple #[.int .i64 ((o.getD 0 : Nat) : Int), .bool o.isSome]) ∧ RD w0 W' g A c l (if o.isSome then a + 1 else a) ∧ FR W W' g := by
 by_cases hlt : a < l.length
 ·
  have e : regAt l a = if l[a].f0 = 1 then Li.regL l[a].f1.data.toList else none := by
   unfold regAt
   rw [List.getElem?_eq_getElem hlt]
  by_cases hk : l[a].f0 = 1
  ·
   rw [if_pos hk] at e
   exact register_word w0 W g A c l a hl hT hG h hlt hk (hs _ (List.getElem_mem hlt)) o (e.symm.trans ho)
  ·
   rw [if_neg hk] at e
   obtain rfl : o = none := by rw [← ho, e]
   exact register_kind w0 W g A c l a hl hT hG h hlt hk
 ·
  obtain rfl : o = none := by
   rw [← ho]
   unfold regAt
   rw [List.getElem?_eq_none (by omega)]
  exact register_end w0 W g A c l a hl hT hG h hlt
def byAt (l : List S61) (a : Nat) : Option Nat := match regAt l (a + 1) with | some n => if markB l (a + 2) 41 then some n else none | none => none
set_option maxHeartbeats 4000000 in
set_option maxRecDepth 100000 in
theorem by_walk (w0 W : World) (g : Nat) (A : Option Addr) (c : Nat) (l : List S61) (a : Nat) (hl : l.length ≤ 1000000) (ha : a ≤ 1000000) (hs : ∀ x ∈ l, x.f1.size ≤ 1000000) (hT : Lib.TabIs Tryz.prog w0 "internal/strconv.uint64pow10" .u64 Lib.pow10Tab) (hG : LiW.RegsAt w0) (h : RD w0 W g A c l a) (o : Option Nat) (ho : byAt l a = o) :
  Calls Tryz.prog 82 #[.pointer (some ⟨g, 0, none⟩)] W fun e W' => e = .returned (.tuple #[.int .i64 ((o.getD 0 : Nat) : Int), .int .i64 (if o.isSome then 0 else 170)]) ∧ FR W W' g ∧ ∃ a', RD w0 W' g A c l a' ∧ (o.isSome = true → a' = a + 3) := by
 have HR := Aside0.mk h
 have HT := Aside0.mk hT
 have HG := Aside0.mk hG
 have HL := Aside0.mk hl
 have HS := Aside0.mk hs
 have c1 := h.cell1
 have f1 := blk_frozen h.blk 1
 unfold byAt at ho
 obtain ⟨a1, e1⟩ : ∃ x, x = a + 1 := ⟨_, rfl⟩
 obtain ⟨a2, e2⟩ : ∃ x, x = a + 2 := ⟨_, rfl⟩
 obtain ⟨a3, e3⟩ : ∃ x, x = a + 3 := ⟨_, rfl⟩
 have hb1 : wrap64 ((a : Int) + 1) = (a1 : Int) := by unfold wrap64; omega
 have hb2 : wrap64 ((a2 : Int) + 1) = (a3 : Int) := by unfold wrap64; omega
 have hb3 : wrap64 ((a2 : Int) + 0) = (a2 : Int) := by unfold wrap64; omega
 have E12 := Aside0.mk (show a1 + 1 = a2 by omega)
 have E3 := Aside0.mk e3
 rw [← e1, ← e2] at ho
 clear e1 e2 e3
 clear h hT hG hl hs ha
 cases hr : regAt l a1 with
 | none =>
  rw [hr] at ho
  subst ho
  have HQ := Aside0.mk hr
  clear hr
  go_enter Tryz.func82, Tryz.ntmps82
  go_wp2_with (first | (go_at_call 80; (with_reducible refine (register_walk w0 _ g A c l a1 HL.out HS.out HT.out HG.out (HR.out.seti a1) none HQ.out).mono ?_); rintro e w2 ⟨rfl, hp, hf⟩; have F2 := Aside0.mk (((FR.same rfl : FR W W g).set 1 (.int .i64 (a1 : Int))).trans hf); have HR2 := Aside0.mk hp; clear hp hf))
  go_ret2
  first | exact ⟨rfl, F2.out, _, HR2.out, fun e => by cases e⟩ | exact ⟨rfl, F2.out, _, HR2.out⟩
 | some n =>
  rw [hr] at ho
  simp only at ho
  have HQ := Aside0.mk hr
  clear hr
  cases hm : markB l a2 41 with
  | false =>
   rw [hm, if_neg (by simp)] at ho
   subst ho
   have HM := Aside0.mk hm
   clear hm
   go_enter Tryz.func82, Tryz.ntmps82
   go_wp2_with (first | (go_at_call 80; (with_reducible refine (register_walk w0 _ g A c l a1 HL.out HS.out HT.out HG.out (HR.out.seti a1) (some n) HQ.out).mono ?_); rintro e w2 ⟨rfl, hp, hf⟩; have F2 := Aside0.mk (((FR.same rfl : FR W W g).set 1 (.int .i64 (a1 : Int))).trans hf); have HR2 := Aside0.mk (show RD w0 w2 g A c l a2 from E12.out ▸ hp); clear hp hf) | (go_at_call 44; (with_reducible refine (is_walk w0 _ g A c l a2 a2 0 41 hb3 HR2.out false HM.out).mono ?_); rintro e w3 ⟨rfl, ⟨nd, rfl⟩⟩))
   go_ret2
   first | exact ⟨rfl, F2.out.trans (FR.same (W' := w2.drewN nd) rfl), _, HR2.out.drewN nd, fun e => by cases e⟩ | exact ⟨rfl, F2.out.trans (FR.same (W' := w2.drewN nd) rfl), _, HR2.out.drewN nd⟩
  | true =>
   rw [hm, if_pos rfl] at ho
   subst ho
   have HM := Aside0.mk hm
   clear hm
   go_enter Tryz.func82, Tryz.ntmps82
   go_wp2_with (first | (go_at_call 80; (with_reducible refine (register_walk w0 _ g A c l a1 HL.out HS.out HT.out HG.out (HR.out.seti a1) (some n) HQ.out).mono ?_); rintro e w2 ⟨rfl, hp, hf⟩; have F2 := Aside0.mk (((FR.same rfl : FR W W g).set 1 (.int .i64 (a1 : Int))).trans hf); have HR2 := Aside0.mk (show RD w0 w2 g A c l a2 from E12.out ▸ hp); have y1 := HR2.out.cell1; have yf := blk_frozen HR2.out.blk 1; clear hp hf) | (go_at_call 44; (with_reducible refine (is_walk w0 _ g A c l a2 a2 0 41 hb3 HR2.out true HM.out).mono ?_); rintro e w3 ⟨rfl, ⟨nd, rfl⟩⟩))
   go_ret2
   first | exact ⟨rfl, FR.set (F2.out.trans (FR.same (W' := w2.drewN nd) rfl)) _ _, _, (HR2.out.drewN nd).seti a3, fun _ => E3.out⟩ | exact ⟨rfl, FR.set (F2.out.trans (FR.same (W' := w2.drewN nd) rfl)) _ _, by rw [← E3.out]; exact (HR2.out.drewN nd).seti a3⟩
end LD
end


section
open Go.Proofs.YtbfndlfemhidaaaGreatDoor.Lex
attribute [local go_sem high] eqA61
namespace LD
def aV (x : S40) : Array Value := #[.int .u8 x.f0, .int .i64 x.f1, .string x.f2.f0, .string x.f2.f1, .int .i64 x.f2.f2, .int .u8 x.f2.f3, .string x.f3]
structure AR (w0 B W : World) (g : Nat) (A : Option Addr) (c : Nat) (l : List S61) (a p : Nat) (x : S40) : Prop where
 fr : FR B W g
 np : B.heap.size ≤ p
 rd : RD w0 W g A c l a
 box : W.heap[p]? = some (.cells (aV x) 40 (0, 0))
 gp : w0.heap.size ≤ p
 ne : g ≠ p
theorem AR.drew {w0 B W : World} {g c a p : Nat} {A : Option Addr} {l : List S61} {x : S40} (h : AR w0 B W g A c l a p x) : AR w0 B W.drew g A c l a p x := ⟨h.fr.trans (FR.same rfl), h.np, h.rd.drew, blk_drew h.box, h.gp, h.ne⟩
theorem AR.drewN {w0 B W : World} {g c a p : Nat} {A : Option Addr} {l : List S61} {x : S40} (h : AR w0 B W g A c l a p x) (n : Nat) : AR w0 B (W.drewN n) g A c l a p x := ⟨h.fr.trans (FR.same rfl), h.np, h.rd.drewN n, blk_drewN h.box n, h.gp, h.ne⟩
theorem AR.below {w0 B W W1 : World} {g c a p : Nat} {A : Option Addr} {l : List S61} {x : S40} (h : AR w0 B W g A c l a p x) (hb : Below W.heap.size W W1) : AR w0 B W1 g A c l a p x := ⟨h.fr.trans (FR.of_below hb), h.np, h.rd.below hb, blk_below h.box hb, h.gp, h.ne⟩
theorem AR.step {w0 B W W1 : World} {g c a a' p : Nat} {A : Option Addr} {l : List S61} {x : S40} (h : AR w0 B W g A c l a p x) (hf : FR W W1 g) (hr : RD w0 W1 g A c l a') : AR w0 B W1 g A c l a' p x := ⟨h.fr.trans hf, h.np, hr, hf.blk h.box h.ne.symm, h.gp, h.ne⟩
theorem AR.seti {w0 B W : World} {g c a p : Nat} {A : Option Addr} {l : List S61} {x : S40} (h : AR w0 B W g A c l a p x) (a' : Nat) : AR w0 B (W.setCell ⟨g, 1, none⟩ (.int .i64 (a' : Int))) g A c l a' p x := ⟨h.fr.set _ _, h.np, h.rd.seti a', blk_far h.box h.ne.symm _, h.gp, h.ne⟩
theorem AR.setx {w0 B W : World} {g c a p : Nat} {A : Option Addr} {l : List S61} {x y : S40} (h : AR w0 B W g A c l a p x) (j : Nat) (v : Value) (e : (aV x).setIfInBounds j v = aV y) : AR w0 B (W.setCell ⟨p, j, none⟩ v) g A c l a p y :=
 ⟨⟨Nat.le_trans h.fr.size (Nat.le_of_eq (by simp)), fun k hk hn => (Below.heap_setCell W ⟨p, j, none⟩ v k (by have := h.np; show k ≠ p; omega)).trans (h.fr.keep k hk hn)⟩, h.np, ⟨blk_far h.rd.blk h.ne _, h.rd.ge, below_set h.rd.bel h.gp, h.rd.row, h.rd.cap⟩, blk_put h.box j v e, h.gp, h.ne⟩
theorem AR.put {w0 B W : World} {g c a p : Nat} {A : Option Addr} {l : List S61} {x : S40} (h : AR w0 B W g A c l a p x) (y : S40) :
  AR w0 B (((((((W.setCell ⟨p, 0, none⟩ (.int .u8 y.f0)).setCell ⟨p, 1, none⟩ (.int .i64 y.f1)).setCell ⟨p, 2, none⟩ (.string y.f2.f0)).setCell ⟨p, 3, none⟩ (.string y.f2.f1)).setCell ⟨p, 4, none⟩ (.int .i64 y.f2.f2)).setCell ⟨p, 5, none⟩ (.int .u8 y.f2.f3)).setCell ⟨p, 6, none⟩ (.string y.f3)) g A c l a p y :=
 ((((((h.setx (y := ⟨y.f0, x.f1, x.f2, x.f3⟩) 0 _ rfl).setx (y := ⟨y.f0, y.f1, x.f2, x.f3⟩) 1 _ rfl).setx (y := ⟨y.f0, y.f1, ⟨y.f2.f0, x.f2.f1, x.f2.f2, x.f2.f3⟩, x.f3⟩) 2 _ rfl).setx (y := ⟨y.f0, y.f1, ⟨y.f2.f0, y.f2.f1, x.f2.f2, x.f2.f3⟩, x.f3⟩) 3 _ rfl).setx (y := ⟨y.f0, y.f1, ⟨y.f2.f0, y.f2.f1, y.f2.f2, x.f2.f3⟩, x.f3⟩) 4 _ rfl).setx (y := ⟨y.f0, y.f1, ⟨y.f2.f0, y.f2.f1, y.f2.f2, y.f2.f3⟩, x.f3⟩) 5 _ rfl).setx (y := y) 6 _ rfl
theorem RD.tok2 {w0 W : World} {g c a : Nat} {A : Option Addr} {l : List S61} (h : RD w0 W g A c l a) (i : Nat) (t : S61) (hi : l[i]? = some t) :
  ∃ ad, A = some ad ∧ W.cell? (ad.add (i * 3)) = some (.int .u8 t.f0) ∧ W.cell? ⟨(ad.add (i * 3)).block, (ad.add (i * 3)).off + 1, none⟩ = some (.string t.f1) ∧ W.cell? ⟨(ad.add (i * 3)).block, (ad.add (i * 3)).off + 2, none⟩ = some (.int .i64 t.f2) := by
 obtain ⟨hlt, rfl⟩ := List.getElem?_eq_some_iff.1 hi
 exact h.tok i hlt
set_option maxHeartbeats 8000000 in
set_option maxRecDepth 100000 in
theorem arg_text (w0 W : World) (g : Nat) (A : Option Addr) (c : Nat) (l : List S61) (a : Nat) (hl : l.length ≤ 1000000) (ha : a ≤ l.length) (hs : ∀ x ∈ l, x.f1.size ≤ 1000000) (hT : Lib.TabIs Tryz.prog w0 "internal/strconv.uint64pow10" .u64 Lib.pow10Tab) (hD : LexW.LexD w0) (hM : ExW.ModsAt w0) (hG : LiW.RegsAt w0) (h : RD w0 W g A c l a) (t : S61) (ht : l[a]? = some t) (hk : t.f0 = 3) :
  Calls Tryz.prog 47 #[.pointer (some ⟨g, 0, none⟩)] W fun e W' => e = .returned (.tuple #[.agg (aV ⟨4, 0, z38, t.f1⟩), .int .i64 0]) ∧ FR W W' g ∧ RD w0 W' g A c l (a + 1) := by
 have HR := Aside0.mk h
 have HT := Aside0.mk hT
 have HD := Aside0.mk hD
 have HM := Aside0.mk hM
 have HG := Aside0.mk hG
 have HL := Aside0.mk hl
 have HS := Aside0.mk hs
 have hlt : a < l.length := (List.getElem?_eq_some_iff.1 ht).1
 have HTT := Aside0.mk ht
 have HE := Aside0.mk (show decide (l.length ≤ a) = false from decide_eq_false (by omega))
 have p0 := eq_true (show (0 : Int) ≤ (a : Int) by omega)
 have q0 := eq_true (show (a : Int) < (l.length : Int) by omega)
 obtain ⟨a1, e1⟩ : ∃ x, x = a + 1 := ⟨_, rfl⟩
 have hb1 : wrap64 ((a : Int) + 1) = (a1 : Int) := by unfold wrap64; omega
 have E1 := Aside0.mk e1
 have k0 : (t.f0 == 3) = true := beq_iff_eq.2 hk
 clear h hl ha hs hT hD hM hG hlt hk e1 ht
 go_enter Tryz.func47, Tryz.ntmps47
 go_wp2_with (first | ((with_reducible refine gate_dst (N := 2) rfl ?_); refine box_event ?hg (N := 2) ?hd (cs := #[.int .u8 0, .int .i64 0, .string (⟨#[]⟩ : ByteArray), .string (⟨#[]⟩ : ByteArray), .int .i64 0, .int .u8 0, .string (⟨#[]⟩ : ByteArray)]) (t := 40) ?hr ?_; (case hd => rfl); (case hg => rfl); (case hr => exact qbe1); intro p hg w1 hbox hb; have AR1 : Aside0 (AR w0 W w1 g A c l a p z40) := ⟨⟨FR.of_below hb, by rw [hg]; exact Nat.le_refl _, HR.out.below hb, hbox, by rw [hg]; exact HR.out.bel.size, by rw [hg]; exact Nat.ne_of_lt (blk_lt HR.out.blk)⟩⟩; clear hb hbox hg))
 have c0 := AR1.out.rd.cell0
 have c1 := AR1.out.rd.cell1
 obtain ⟨ad, rfl, x0, x1, x2⟩ := AR1.out.rd.tok2 a t HTT.out
 go_quiet (first | (go_at_call 27; (with_reducible refine (end_walk w0 _ g (some ad) c l a (AR1.out.rd.drewN _) false HE.out).mono ?_); rintro e w5 ⟨rfl, ⟨nd, rfl⟩⟩; first | exact ⟨rfl, _, World.drewN_drewN _ _ _⟩ | exact ⟨rfl, _, Eq.trans (World.drewN_drewN _ _ _) (congrArg (World.drewN _) (Nat.add_assoc _ _ _))⟩))
 go_wp2
 refine start_ (n := 13) (S := fun w' => w'.cell? ⟨g, 0, none⟩ = some (.slice (some ad) l.length c) ∧ w'.cell? ⟨g, 1, none⟩ = some (.int .i64 (a : Int)) ∧ w'.cell? (ad.add (a * 3)) = some (.int .u8 t.f0) ∧ w'.cell? ⟨(ad.add (a * 3)).block, (ad.add (a * 3)).off + 1, none⟩ = some (.string t.f1) ∧ w'.cell? ⟨(ad.add (a * 3)).block, (ad.add (a * 3)).off + 2, none⟩ = some (.int .i64 t.f2)) (ds := [12]) #[false, false, false, false, false, false, false, false, false, false, false, false, false] (by kernel_rfl) rfl rfl ⟨c0, c1, x0, x1, x2⟩ (fun hHeld => ?_)
 refine pure_ (i := 0) (N := some 23) (v := ?_) (a' := ?_) #[true, false, false, false, false, false, false, false, false, false, false, false, false] rfl rfl (by kernel_rfl) (fun _ _ _ h => h) (Or.inl ⟨by rfl, ?_⟩) ?_ ?_
 rotate_left
 ·
  intro w'
  go_simp
  with_reducible rfl
 rotate_left
 ·
  simp only [Act.put, List.setIfInBounds_toArray, List.set_cons_zero, List.set_cons_succ, i64_w, i32_w]
  rfl
 refine pure_ (i := 1) (N := some 24) (v := ?_) (a' := ?_) #[true, true, false, false, false, false, false, false, false, false, false, false, false] rfl rfl (by kernel_rfl) (fun _ _ _ h => h) (Or.inl ⟨by rfl, ?_⟩) ?_ ?_
 rotate_left
 ·
  intro w'
  go_simp
  with_reducible rfl
 rotate_left
 ·
  simp only [Act.put, List.setIfInBounds_toArray, List.set_cons_zero, List.set_cons_succ, i64_w, i32_w]
  rfl
 refine pure_ (i := 2) (N := some 25) (v := ?_) (a' := ?_) #[true, true, true, false, false, false, false, false, false, false, false, false, false] rfl rfl (by kernel_rfl) (fun _ _ _ h => h) (Or.inl ⟨by rfl, ?_⟩) ?_ ?_
 rotate_left
 ·
  intro w'
  go_simp
  with_reducible rfl
 rotate_left
 ·
  simp only [Act.put, List.setIfInBounds_toArray, List.set_cons_zero, List.set_cons_succ, i64_w, i32_w]
  rfl
 refine pure_ (i := 4) (N := some 27) (v := ?_) (a' := ?_) #[true, true, true, false, true, false, false, false, false, false, false, false, false] rfl rfl (by kernel_rfl) (fun _ _ _ h => h) (Or.inl ⟨by rfl, ?_⟩) ?_ ?_
 rotate_left
 ·
  intro w'
  go_simp
  with_reducible rfl
 rotate_left
 ·
  simp only [Act.put, List.setIfInBounds_toArray, List.set_cons_zero, List.set_cons_succ, i64_w, i32_w]
  rfl
 refine pure_ (i := 5) (N := some 28) (v := ?_) (a' := ?_) #[true, true, true, false, true, true, false, false, false, false, false, false, false] rfl rfl (by kernel_rfl) (fun _ _ _ h => h) (Or.inl ⟨by rfl, ?_⟩) ?_ ?_
 rotate_left
 ·
  intro w'
  go_simp
  with_reducible rfl
 rotate_left
 ·
  simp only [Act.put, List.setIfInBounds_toArray, List.set_cons_zero, List.set_cons_succ, i64_w, i32_w]
  rfl
 refine pure_ (i := 6) (N := some 29) (v := ?_) (a' := ?_) #[true, true, true, false, true, true, true, false, false, false, false, false, false] rfl rfl (by kernel_rfl) (fun _ _ _ h => h) (Or.inl ⟨by rfl, ?_⟩) ?_ ?_
 rotate_left
 ·
  intro w'
  go_simp
  with_reducible rfl
 rotate_left
 ·
  simp only [Act.put, List.setIfInBounds_toArray, List.set_cons_zero, List.set_cons_succ, i64_w, i32_w]
  rfl
 refine take_ (i := 3) (N := some 26) (v := ?_) (a' := ?_) #[true, true, true, true, true, true, true, false, false, false, false, false, false] rfl rfl (by kernel_rfl) (fun _ _ _ h => h) (Or.inl ⟨by rfl, ?_⟩) hHeld ?_ ?_
 rotate_left
 ·
  rintro w' ⟨s0, s1, s2, s3, s4⟩
  go_simp
  with_reducible rfl
 rotate_left
 ·
  simp only [Act.put, List.setIfInBounds_toArray, List.set_cons_zero, List.set_cons_succ, i64_w, i32_w]
  rfl
 refine take_ (i := 7) (N := some 30) (v := ?_) (a' := ?_) #[true, true, true, true, true, true, true, true, false, false, false, false, false] rfl rfl (by kernel_rfl) (fun _ _ _ h => h) (Or.inl ⟨by rfl, ?_⟩) hHeld ?_ ?_
 rotate_left
 ·
  rintro w' ⟨s0, s1, s2, s3, s4⟩
  go_simp
  with_reducible rfl
 rotate_left
 ·
  simp only [Act.put, List.setIfInBounds_toArray, List.set_cons_zero, List.set_cons_succ, i64_w, i32_w]
  rfl
 refine pure_ (i := 8) (N := some 31) (v := ?_) (a' := ?_) #[true, true, true, true, true, true, true, true, true, false, false, false, false] rfl rfl (by kernel_rfl) (fun _ _ _ h => h) (Or.inl ⟨by rfl, ?_⟩) ?_ ?_
 rotate_left
 ·
  intro w'
  go_simp
  with_reducible rfl
 rotate_left
 ·
  simp only [Act.put, List.setIfInBounds_toArray, List.set_cons_zero, List.set_cons_succ, i64_w, i32_w]
  rfl
 refine pure_ (i := 9) (N := some 32) (v := ?_) (a' := ?_) #[true, true, true, true, true, true, true, true, true, true, false, false, false] rfl rfl (by kernel_rfl) (fun _ _ _ h => h) (Or.inl ⟨by rfl, ?_⟩) ?_ ?_
 rotate_left
 ·
  intro w'
  go_simp
  with_reducible rfl
 rotate_left
 ·
  simp only [Act.put, List.setIfInBounds_toArray, List.set_cons_zero, List.set_cons_succ, i64_w, i32_w]
  rfl
 refine take_ (i := 10) (N := some 33) (v := ?_) (a' := ?_) #[true, true, true, true, true, true, true, true, true, true, true, false, false] rfl rfl (by kernel_rfl) (fun _ _ _ h => h) (Or.inl ⟨by rfl, ?_⟩) hHeld ?_ ?_
 rotate_left
 ·
  rintro w' ⟨s0, s1, s2, s3, s4⟩
  go_simp
  with_reducible rfl
 rotate_left
 ·
  simp only [Act.put, List.setIfInBounds_toArray, List.set_cons_zero, List.set_cons_succ, i64_w, i32_w]
  rfl
 refine pure_ (i := 11) (N := some 34) (v := ?_) (a' := ?_) #[true, true, true, true, true, true, true, true, true, true, true, true, false] rfl rfl (by kernel_rfl) (fun _ _ _ h => h) (Or.inl ⟨by rfl, ?_⟩) ?_ ?_
 rotate_left
 ·
  intro w'
  go_simp
  with_reducible rfl
 rotate_left
 ·
  simp only [Act.put, List.setIfInBounds_toArray, List.set_cons_zero, List.set_cons_succ, i64_w, i32_w]
  rfl
 refine last_ (i := 12) (N := none) #[true, true, true, true, true, true, true, true, true, true, true, true, true] rfl rfl (by kernel_rfl) (by decide) (fun K hK => ?_)
 have v0 := (blk_cell AR1.out.box 0)
 have v1 := (blk_cell AR1.out.box 1)
 have v2 := (blk_cell AR1.out.box 2)
 have v3 := (blk_cell AR1.out.box 3)
 have v4 := (blk_cell AR1.out.box 4)
 have v5 := (blk_cell AR1.out.box 5)
 have v6 := (blk_cell AR1.out.box 6)
 have vf0 := blk_frozen AR1.out.box 0
 have vf1 := blk_frozen AR1.out.box 1
 have vf2 := blk_frozen AR1.out.box 2
 have vf3 := blk_frozen AR1.out.box 3
 have vf4 := blk_frozen AR1.out.box 4
 have vf5 := blk_frozen AR1.out.box 5
 have vf6 := blk_frozen AR1.out.box 6
 simp only [aV, z40, z38, List.getElem?_toArray, List.getElem?_cons_zero, List.getElem?_cons_succ] at v0 v1 v2 v3 v4 v5 v6
 refine skip_ (w1 := ?_) (by rfl) rfl ?_ ?_
 rotate_left
 ·
  go_simp
  rfl
 refine hK.out _ _ ?_
 clear hK K
 refine done_ (by kernel_rfl) ?_
 obtain ⟨w6, hw6, AR6⟩ : ∃ V, ((((((((w1.drewN (nq + 1)).setCell ⟨p, 0, none⟩ (.int .u8 4)).setCell ⟨p, 1, none⟩ (.int .i64 0)).setCell ⟨p, 2, none⟩ (.string (⟨#[]⟩ : ByteArray))).setCell ⟨p, 3, none⟩ (.string (⟨#[]⟩ : ByteArray))).setCell ⟨p, 4, none⟩ (.int .i64 0)).setCell ⟨p, 5, none⟩ (.int .u8 0)).setCell ⟨p, 6, none⟩ (.string t.f1)) = V ∧ Aside0 (AR w0 W V g (some ad) c l a p (⟨4, 0, z38, t.f1⟩ : S40)) := ⟨_, rfl, ⟨(AR1.out.drewN (nq + 1)).put (⟨4, 0, z38, t.f1⟩ : S40)⟩⟩
 rw [hw6]
 clear hw6
 clear c0 c1 x0 x1 x2 AR1
 have y1 := AR6.out.rd.cell1
 have yf := blk_frozen AR6.out.rd.blk 1
 go_wp2
 have AR7 := Aside0.mk (AR6.out.seti a1)
 refine bodyPost_ret (results_ct rfl _ _ p 40 (aV (⟨4, 0, z38, t.f1⟩ : S40)) (0, 0) _ rfl (AR7.out.box) Tryz.underlying40 rfl (by kernel_rfl)) rfl ?_
 exact ⟨rfl, AR7.out.fr, E1.out ▸ AR7.out.rd⟩

set_option maxHeartbeats 8000000 in
set_option maxRecDepth 100000 in
theorem arg_reg (w0 W : World) (g : Nat) (A : Option Addr) (c : Nat) (l : List S61) (a : Nat) (hl : l.length ≤ 1000000) (ha : a ≤ l.length) (hs : ∀ x ∈ l, x.f1.size ≤ 1000000) (hT : Lib.TabIs Tryz.prog w0 "internal/strconv.uint64pow10" .u64 Lib.pow10Tab) (hD : LexW.LexD w0) (hM : ExW.ModsAt w0) (hG : LiW.RegsAt w0) (h : RD w0 W g A c l a) (t : S61) (ht : l[a]? = some t) (hk : ¬ t.f0 = 3) (n : Nat) (hq : regAt l a = some n) :
  Calls Tryz.prog 47 #[.pointer (some ⟨g, 0, none⟩)] W fun e W' => e = .returned (.tuple #[.agg (aV ⟨1, (n : Int), z38, (⟨#[]⟩ : ByteArray)⟩), .int .i64 0]) ∧ FR W W' g ∧ RD w0 W' g A c l (a + 1) := by
 have HR := Aside0.mk h
 have HT := Aside0.mk hT
 have HD := Aside0.mk hD
 have HM := Aside0.mk hM
 have HG := Aside0.mk hG
 have HL := Aside0.mk hl
 have HS := Aside0.mk hs
 have hlt : a < l.length := (List.getElem?_eq_some_iff.1 ht).1
 have HTT := Aside0.mk ht
 have HE := Aside0.mk (show decide (l.length ≤ a) = false from decide_eq_false (by omega))
 have p0 := eq_true (show (0 : Int) ≤ (a : Int) by omega)
 have q0 := eq_true (show (a : Int) < (l.length : Int) by omega)
 obtain ⟨a1, e1⟩ : ∃ x, x = a + 1 := ⟨_, rfl⟩
 have hb1 : wrap64 ((a : Int) + 1) = (a1 : Int) := by unfold wrap64; omega
 have E1 := Aside0.mk e1
 have k0 : (t.f0 == 3) = false := beq_eq_false_iff_ne.2 hk
 have HQ := Aside0.mk hq
 clear h hl ha hs hT hD hM hG hlt hk e1 ht hq
 go_enter Tryz.func47, Tryz.ntmps47
 go_wp2_with (first | ((with_reducible refine gate_dst (N := 2) rfl ?_); refine box_event ?hg (N := 2) ?hd (cs := #[.int .u8 0, .int .i64 0, .string (⟨#[]⟩ : ByteArray), .string (⟨#[]⟩ : ByteArray), .int .i64 0, .int .u8 0, .string (⟨#[]⟩ : ByteArray)]) (t := 40) ?hr ?_; (case hd => rfl); (case hg => rfl); (case hr => exact qbe1); intro p hg w1 hbox hb; have AR1 : Aside0 (AR w0 W w1 g A c l a p z40) := ⟨⟨FR.of_below hb, by rw [hg]; exact Nat.le_refl _, HR.out.below hb, hbox, by rw [hg]; exact HR.out.bel.size, by rw [hg]; exact Nat.ne_of_lt (blk_lt HR.out.blk)⟩⟩; clear hb hbox hg))
 have c0 := AR1.out.rd.cell0
 have c1 := AR1.out.rd.cell1
 obtain ⟨ad, rfl, x0, x1, x2⟩ := AR1.out.rd.tok2 a t HTT.out
 go_quiet (first | (go_at_call 27; (with_reducible refine (end_walk w0 _ g (some ad) c l a (AR1.out.rd.drewN _) false HE.out).mono ?_); rintro e w5 ⟨rfl, ⟨nd, rfl⟩⟩; first | exact ⟨rfl, _, World.drewN_drewN _ _ _⟩ | exact ⟨rfl, _, Eq.trans (World.drewN_drewN _ _ _) (congrArg (World.drewN _) (Nat.add_assoc _ _ _))⟩))
 have AR3 := Aside0.mk (AR1.out.drewN nq)
 go_wp2_with (first | (go_at_call 80; (with_reducible refine (register_walk w0 _ g (some ad) c l a HL.out HS.out HT.out HG.out AR3.out.rd (some n) HQ.out).mono ?_); rintro e w2 ⟨rfl, hp, hf⟩; have AR4 := Aside0.mk (AR3.out.step hf hp); have v0 := (blk_cell AR4.out.box 0); have v1 := (blk_cell AR4.out.box 1); have v2 := (blk_cell AR4.out.box 2); have v3 := (blk_cell AR4.out.box 3); have v4 := (blk_cell AR4.out.box 4); have v5 := (blk_cell AR4.out.box 5); have v6 := (blk_cell AR4.out.box 6); have vf0 := blk_frozen AR4.out.box 0; have vf1 := blk_frozen AR4.out.box 1; have vf2 := blk_frozen AR4.out.box 2; have vf3 := blk_frozen AR4.out.box 3; have vf4 := blk_frozen AR4.out.box 4; have vf5 := blk_frozen AR4.out.box 5; have vf6 := blk_frozen AR4.out.box 6; simp only [aV, z40, z38, List.getElem?_toArray, List.getElem?_cons_zero, List.getElem?_cons_succ] at v0 v1 v2 v3 v4 v5 v6; clear hp hf))
 obtain ⟨w6, hw6, AR6⟩ : ∃ V, (((((((w2.setCell ⟨p, 0, none⟩ (.int .u8 1)).setCell ⟨p, 1, none⟩ (.int .i64 (n : Int))).setCell ⟨p, 2, none⟩ (.string (⟨#[]⟩ : ByteArray))).setCell ⟨p, 3, none⟩ (.string (⟨#[]⟩ : ByteArray))).setCell ⟨p, 4, none⟩ (.int .i64 0)).setCell ⟨p, 5, none⟩ (.int .u8 0)).setCell ⟨p, 6, none⟩ (.string (⟨#[]⟩ : ByteArray))) = V ∧ Aside0 (AR w0 W V g (some ad) c l (a + 1) p (⟨1, (n : Int), z38, (⟨#[]⟩ : ByteArray)⟩ : S40)) := ⟨_, rfl, ⟨AR4.out.put (⟨1, (n : Int), z38, (⟨#[]⟩ : ByteArray)⟩ : S40)⟩⟩
 rw [hw6]
 clear hw6
 go_wp2
 refine bodyPost_ret (results_ct rfl _ _ p 40 (aV (⟨1, (n : Int), z38, (⟨#[]⟩ : ByteArray)⟩ : S40)) (0, 0) _ rfl (AR6.out.box) Tryz.underlying40 rfl (by kernel_rfl)) rfl ?_
 exact ⟨rfl, AR6.out.fr, AR6.out.rd⟩

set_option maxHeartbeats 8000000 in
set_option maxRecDepth 100000 in
theorem arg_mem_none (w0 W : World) (g : Nat) (A : Option Addr) (c : Nat) (l : List S61) (a : Nat) (hl : l.length ≤ 1000000) (ha : a ≤ l.length) (hs : ∀ x ∈ l, x.f1.size ≤ 1000000) (hT : Lib.TabIs Tryz.prog w0 "internal/strconv.uint64pow10" .u64 Lib.pow10Tab) (hD : LexW.LexD w0) (hM : ExW.ModsAt w0) (hG : LiW.RegsAt w0) (h : RD w0 W g A c l a) (t : S61) (ht : l[a]? = some t) (hk : ¬ t.f0 = 3) (hq : regAt l a = none) (hm : markB l a 40 = true) (ho : byAt l a = none) :
  Calls Tryz.prog 47 #[.pointer (some ⟨g, 0, none⟩)] W fun e W' => e = .returned (.tuple #[.agg (aV (⟨3, 0, z38, (⟨#[]⟩ : ByteArray)⟩ : S40)), .int .i64 170]) ∧ FR W W' g ∧ ∃ a', RD w0 W' g A c l a' := by
 have HR := Aside0.mk h
 have HT := Aside0.mk hT
 have HD := Aside0.mk hD
 have HM := Aside0.mk hM
 have HG := Aside0.mk hG
 have HL := Aside0.mk hl
 have HS := Aside0.mk hs
 have hlt : a < l.length := (List.getElem?_eq_some_iff.1 ht).1
 have HTT := Aside0.mk ht
 have HE := Aside0.mk (show decide (l.length ≤ a) = false from decide_eq_false (by omega))
 have p0 := eq_true (show (0 : Int) ≤ (a : Int) by omega)
 have q0 := eq_true (show (a : Int) < (l.length : Int) by omega)
 obtain ⟨a1, e1⟩ : ∃ x, x = a + 1 := ⟨_, rfl⟩
 have hb1 : wrap64 ((a : Int) + 1) = (a1 : Int) := by unfold wrap64; omega
 have E1 := Aside0.mk e1
 have k0 : (t.f0 == 3) = false := beq_eq_false_iff_ne.2 hk
 have HQ := Aside0.mk hq
 have HMK := Aside0.mk hm
 have HO := Aside0.mk ho
 have HA := Aside0.mk ha
 have hb0 : wrap64 ((a : Int) + 0) = (a : Int) := by unfold wrap64; omega
 clear h hl ha hs hT hD hM hG hlt hk e1 ht hq hm ho
 go_enter Tryz.func47, Tryz.ntmps47
 go_wp2_with (first | ((with_reducible refine gate_dst (N := 2) rfl ?_); refine box_event ?hg (N := 2) ?hd (cs := #[.int .u8 0, .int .i64 0, .string (⟨#[]⟩ : ByteArray), .string (⟨#[]⟩ : ByteArray), .int .i64 0, .int .u8 0, .string (⟨#[]⟩ : ByteArray)]) (t := 40) ?hr ?_; (case hd => rfl); (case hg => rfl); (case hr => exact qbe1); intro p hg w1 hbox hb; have AR1 : Aside0 (AR w0 W w1 g A c l a p z40) := ⟨⟨FR.of_below hb, by rw [hg]; exact Nat.le_refl _, HR.out.below hb, hbox, by rw [hg]; exact HR.out.bel.size, by rw [hg]; exact Nat.ne_of_lt (blk_lt HR.out.blk)⟩⟩; clear hb hbox hg))
 have c0 := AR1.out.rd.cell0
 have c1 := AR1.out.rd.cell1
 obtain ⟨ad, rfl, x0, x1, x2⟩ := AR1.out.rd.tok2 a t HTT.out
 go_quiet (first | (go_at_call 27; (with_reducible refine (end_walk w0 _ g (some ad) c l a (AR1.out.rd.drewN _) false HE.out).mono ?_); rintro e w5 ⟨rfl, ⟨nd, rfl⟩⟩; first | exact ⟨rfl, _, World.drewN_drewN _ _ _⟩ | exact ⟨rfl, _, Eq.trans (World.drewN_drewN _ _ _) (congrArg (World.drewN _) (Nat.add_assoc _ _ _))⟩))
 have AR3 := Aside0.mk (AR1.out.drewN nq)
 go_wp2_with (first | (go_at_call 80; (with_reducible refine (register_walk w0 _ g (some ad) c l a HL.out HS.out HT.out HG.out AR3.out.rd none HQ.out).mono ?_); rintro e w2 ⟨rfl, hp, hf⟩; have AR4 := Aside0.mk (AR3.out.step hf hp); have v0 := (blk_cell AR4.out.box 0); have v1 := (blk_cell AR4.out.box 1); have v2 := (blk_cell AR4.out.box 2); have v3 := (blk_cell AR4.out.box 3); have v4 := (blk_cell AR4.out.box 4); have v5 := (blk_cell AR4.out.box 5); have v6 := (blk_cell AR4.out.box 6); have vf0 := blk_frozen AR4.out.box 0; have vf1 := blk_frozen AR4.out.box 1; have vf2 := blk_frozen AR4.out.box 2; have vf3 := blk_frozen AR4.out.box 3; have vf4 := blk_frozen AR4.out.box 4; have vf5 := blk_frozen AR4.out.box 5; have vf6 := blk_frozen AR4.out.box 6; simp only [aV, z40, z38, List.getElem?_toArray, List.getElem?_cons_zero, List.getElem?_cons_succ] at v0 v1 v2 v3 v4 v5 v6; clear hp hf) | (go_at_call 44; (with_reducible refine (is_walk w0 _ g (some ad) c l a a 0 40 hb0 (AR4.out.setx (y := (⟨2, 0, z38, (⟨#[]⟩ : ByteArray)⟩ : S40)) 0 (.int .u8 2) rfl).rd true HMK.out).mono ?_); rintro e w3 ⟨rfl, ⟨nd2, rfl⟩⟩; skip) | (go_at_call 82; (with_reducible refine (by_walk w0 _ g (some ad) c l a HL.out (by have := HA.out; have := HL.out; omega) HS.out HT.out HG.out (((AR4.out.setx (y := (⟨2, 0, z38, (⟨#[]⟩ : ByteArray)⟩ : S40)) 0 (.int .u8 2) rfl).drewN nd2).setx (y := (⟨3, 0, z38, (⟨#[]⟩ : ByteArray)⟩ : S40)) 0 (.int .u8 3) rfl).rd _ HO.out).mono ?_); rintro e w4 ⟨rfl, hf, a', hp, hq⟩; have AR8 := Aside0.mk ((((AR4.out.setx (y := (⟨2, 0, z38, (⟨#[]⟩ : ByteArray)⟩ : S40)) 0 (.int .u8 2) rfl).drewN nd2).setx (y := (⟨3, 0, z38, (⟨#[]⟩ : ByteArray)⟩ : S40)) 0 (.int .u8 3) rfl).step hf hp); have HQ8 := Aside0.mk hq; have v0 := (blk_cell AR8.out.box 0); have v1 := (blk_cell AR8.out.box 1); have v2 := (blk_cell AR8.out.box 2); have v3 := (blk_cell AR8.out.box 3); have v4 := (blk_cell AR8.out.box 4); have v5 := (blk_cell AR8.out.box 5); have v6 := (blk_cell AR8.out.box 6); have vf0 := blk_frozen AR8.out.box 0; have vf1 := blk_frozen AR8.out.box 1; have vf2 := blk_frozen AR8.out.box 2; have vf3 := blk_frozen AR8.out.box 3; have vf4 := blk_frozen AR8.out.box 4; have vf5 := blk_frozen AR8.out.box 5; have vf6 := blk_frozen AR8.out.box 6; simp only [aV, z40, z38, List.getElem?_toArray, List.getElem?_cons_zero, List.getElem?_cons_succ] at v0 v1 v2 v3 v4 v5 v6; clear hp hf hq))
 have AR9 := Aside0.mk (AR8.out.setx (y := (⟨3, 0, z38, (⟨#[]⟩ : ByteArray)⟩ : S40)) 1 (.int .i64 0) rfl)
 refine bodyPost_ret (results_ct rfl _ _ p 40 (aV (⟨3, 0, z38, (⟨#[]⟩ : ByteArray)⟩ : S40)) (0, 0) _ rfl (AR9.out.box) Tryz.underlying40 rfl (by kernel_rfl)) rfl ?_
 exact ⟨rfl, AR9.out.fr, _, AR9.out.rd⟩

set_option maxHeartbeats 8000000 in
set_option maxRecDepth 100000 in
theorem arg_mem_some (w0 W : World) (g : Nat) (A : Option Addr) (c : Nat) (l : List S61) (a : Nat) (hl : l.length ≤ 1000000) (ha : a ≤ l.length) (hs : ∀ x ∈ l, x.f1.size ≤ 1000000) (hT : Lib.TabIs Tryz.prog w0 "internal/strconv.uint64pow10" .u64 Lib.pow10Tab) (hD : LexW.LexD w0) (hM : ExW.ModsAt w0) (hG : LiW.RegsAt w0) (h : RD w0 W g A c l a) (t : S61) (ht : l[a]? = some t) (hk : ¬ t.f0 = 3) (hq : regAt l a = none) (hm : markB l a 40 = true) (n : Nat) (ho : byAt l a = (some n)) :
  Calls Tryz.prog 47 #[.pointer (some ⟨g, 0, none⟩)] W fun e W' => e = .returned (.tuple #[.agg (aV (⟨3, (n : Int), z38, (⟨#[]⟩ : ByteArray)⟩ : S40)), .int .i64 0]) ∧ FR W W' g ∧ RD w0 W' g A c l (a + 3) := by
 have HR := Aside0.mk h
 have HT := Aside0.mk hT
 have HD := Aside0.mk hD
 have HM := Aside0.mk hM
 have HG := Aside0.mk hG
 have HL := Aside0.mk hl
 have HS := Aside0.mk hs
 have hlt : a < l.length := (List.getElem?_eq_some_iff.1 ht).1
 have HTT := Aside0.mk ht
 have HE := Aside0.mk (show decide (l.length ≤ a) = false from decide_eq_false (by omega))
 have p0 := eq_true (show (0 : Int) ≤ (a : Int) by omega)
 have q0 := eq_true (show (a : Int) < (l.length : Int) by omega)
 obtain ⟨a1, e1⟩ : ∃ x, x = a + 1 := ⟨_, rfl⟩
 have hb1 : wrap64 ((a : Int) + 1) = (a1 : Int) := by unfold wrap64; omega
 have E1 := Aside0.mk e1
 have k0 : (t.f0 == 3) = false := beq_eq_false_iff_ne.2 hk
 have HQ := Aside0.mk hq
 have HMK := Aside0.mk hm
 have HO := Aside0.mk ho
 have HA := Aside0.mk ha
 have hb0 : wrap64 ((a : Int) + 0) = (a : Int) := by unfold wrap64; omega
 clear h hl ha hs hT hD hM hG hlt hk e1 ht hq hm ho
 go_enter Tryz.func47, Tryz.ntmps47
 go_wp2_with (first | ((with_reducible refine gate_dst (N := 2) rfl ?_); refine box_event ?hg (N := 2) ?hd (cs := #[.int .u8 0, .int .i64 0, .string (⟨#[]⟩ : ByteArray), .string (⟨#[]⟩ : ByteArray), .int .i64 0, .int .u8 0, .string (⟨#[]⟩ : ByteArray)]) (t := 40) ?hr ?_; (case hd => rfl); (case hg => rfl); (case hr => exact qbe1); intro p hg w1 hbox hb; have AR1 : Aside0 (AR w0 W w1 g A c l a p z40) := ⟨⟨FR.of_below hb, by rw [hg]; exact Nat.le_refl _, HR.out.below hb, hbox, by rw [hg]; exact HR.out.bel.size, by rw [hg]; exact Nat.ne_of_lt (blk_lt HR.out.blk)⟩⟩; clear hb hbox hg))
 have c0 := AR1.out.rd.cell0
 have c1 := AR1.out.rd.cell1
 obtain ⟨ad, rfl, x0, x1, x2⟩ := AR1.out.rd.tok2 a t HTT.out
 go_quiet (first | (go_at_call 27; (with_reducible refine (end_walk w0 _ g (some ad) c l a (AR1.out.rd.drewN _) false HE.out).mono ?_); rintro e w5 ⟨rfl, ⟨nd, rfl⟩⟩; first | exact ⟨rfl, _, World.drewN_drewN _ _ _⟩ | exact ⟨rfl, _, Eq.trans (World.drewN_drewN _ _ _) (congrArg (World.drewN _) (Nat.add_assoc _ _ _))⟩))
 have AR3 := Aside0.mk (AR1.out.drewN nq)
 go_wp2_with (first | (go_at_call 80; (with_reducible refine (register_walk w0 _ g (some ad) c l a HL.out HS.out HT.out HG.out AR3.out.rd none HQ.out).mono ?_); rintro e w2 ⟨rfl, hp, hf⟩; have AR4 := Aside0.mk (AR3.out.step hf hp); have v0 := (blk_cell AR4.out.box 0); have v1 := (blk_cell AR4.out.box 1); have v2 := (blk_cell AR4.out.box 2); have v3 := (blk_cell AR4.out.box 3); have v4 := (blk_cell AR4.out.box 4); have v5 := (blk_cell AR4.out.box 5); have v6 := (blk_cell AR4.out.box 6); have vf0 := blk_frozen AR4.out.box 0; have vf1 := blk_frozen AR4.out.box 1; have vf2 := blk_frozen AR4.out.box 2; have vf3 := blk_frozen AR4.out.box 3; have vf4 := blk_frozen AR4.out.box 4; have vf5 := blk_frozen AR4.out.box 5; have vf6 := blk_frozen AR4.out.box 6; simp only [aV, z40, z38, List.getElem?_toArray, List.getElem?_cons_zero, List.getElem?_cons_succ] at v0 v1 v2 v3 v4 v5 v6; clear hp hf) | (go_at_call 44; (with_reducible refine (is_walk w0 _ g (some ad) c l a a 0 40 hb0 (AR4.out.setx (y := (⟨2, 0, z38, (⟨#[]⟩ : ByteArray)⟩ : S40)) 0 (.int .u8 2) rfl).rd true HMK.out).mono ?_); rintro e w3 ⟨rfl, ⟨nd2, rfl⟩⟩; skip) | (go_at_call 82; (with_reducible refine (by_walk w0 _ g (some ad) c l a HL.out (by have := HA.out; have := HL.out; omega) HS.out HT.out HG.out (((AR4.out.setx (y := (⟨2, 0, z38, (⟨#[]⟩ : ByteArray)⟩ : S40)) 0 (.int .u8 2) rfl).drewN nd2).setx (y := (⟨3, 0, z38, (⟨#[]⟩ : ByteArray)⟩ : S40)) 0 (.int .u8 3) rfl).rd _ HO.out).mono ?_); rintro e w4 ⟨rfl, hf, a', hp, hq⟩; have AR8 := Aside0.mk ((((AR4.out.setx (y := (⟨2, 0, z38, (⟨#[]⟩ : ByteArray)⟩ : S40)) 0 (.int .u8 2) rfl).drewN nd2).setx (y := (⟨3, 0, z38, (⟨#[]⟩ : ByteArray)⟩ : S40)) 0 (.int .u8 3) rfl).step hf hp); have HQ8 := Aside0.mk hq; have v0 := (blk_cell AR8.out.box 0); have v1 := (blk_cell AR8.out.box 1); have v2 := (blk_cell AR8.out.box 2); have v3 := (blk_cell AR8.out.box 3); have v4 := (blk_cell AR8.out.box 4); have v5 := (blk_cell AR8.out.box 5); have v6 := (blk_cell AR8.out.box 6); have vf0 := blk_frozen AR8.out.box 0; have vf1 := blk_frozen AR8.out.box 1; have vf2 := blk_frozen AR8.out.box 2; have vf3 := blk_frozen AR8.out.box 3; have vf4 := blk_frozen AR8.out.box 4; have vf5 := blk_frozen AR8.out.box 5; have vf6 := blk_frozen AR8.out.box 6; simp only [aV, z40, z38, List.getElem?_toArray, List.getElem?_cons_zero, List.getElem?_cons_succ] at v0 v1 v2 v3 v4 v5 v6; clear hp hf hq))
 have AR9 := Aside0.mk (AR8.out.setx (y := (⟨3, (n : Int), z38, (⟨#[]⟩ : ByteArray)⟩ : S40)) 1 (.int .i64 (n : Int)) rfl)
 refine bodyPost_ret (results_ct rfl _ _ p 40 (aV (⟨3, (n : Int), z38, (⟨#[]⟩ : ByteArray)⟩ : S40)) (0, 0) _ rfl (AR9.out.box) Tryz.underlying40 rfl (by kernel_rfl)) rfl ?_
 exact ⟨rfl, AR9.out.fr, (HQ8.out rfl) ▸ AR9.out.rd⟩

set_option maxHeartbeats 8000000 in
set_option maxRecDepth 100000 in
theorem arg_expr (w0 W : World) (g : Nat) (A : Option Addr) (c : Nat) (l : List S61) (a : Nat) (hl : l.length ≤ 1000000) (ha : a ≤ l.length) (hs : ∀ x ∈ l, x.f1.size ≤ 1000000) (hT : Lib.TabIs Tryz.prog w0 "internal/strconv.uint64pow10" .u64 Lib.pow10Tab) (hD : LexW.LexD w0) (hM : ExW.ModsAt w0) (hG : LiW.RegsAt w0) (h : RD w0 W g A c l a) (t : S61) (ht : l[a]? = some t) (hk : ¬ t.f0 = 3) (hq : regAt l a = none) (hm : markB l a 40 = false) (s1 s2 : ByteArray) (n m er : Int) (nx : Nat) (hp : expr_Parse.f l (a : Int) = some (s1, s2, n, m, (nx : Int), er)) (Q : Ending → World → Prop) (hc : (er ≠ 0 ∧ ∀ W', FR W W' g → (∃ a', RD w0 W' g A c l a') → Q (.returned (.tuple #[.agg (aV (⟨2, 0, ⟨s1, s2, n, m⟩, (⟨#[]⟩ : ByteArray)⟩ : S40)), .int .i64 er])) W') ∨ (er = 0 ∧ line_sum.f s1 s2 n m = some false ∧ ∀ W', FR W W' g → (∃ a', RD w0 W' g A c l a') → Q (.returned (.tuple #[.agg (aV (⟨2, 0, ⟨s1, s2, n, m⟩, (⟨#[]⟩ : ByteArray)⟩ : S40)), .int .i64 160])) W') ∨ (er = 0 ∧ line_sum.f s1 s2 n m = some true ∧ nx ≤ l.length ∧ markB l nx 40 = false ∧ ∀ W', FR W W' g → RD w0 W' g A c l nx → Q (.returned (.tuple #[.agg (aV (⟨2, 0, ⟨s1, s2, n, m⟩, (⟨#[]⟩ : ByteArray)⟩ : S40)), .int .i64 0])) W') ∨ (er = 0 ∧ line_sum.f s1 s2 n m = some true ∧ nx ≤ l.length ∧ markB l nx 40 = true ∧ byAt l nx = none ∧ ∀ W', FR W W' g → (∃ a', RD w0 W' g A c l a') → Q (.returned (.tuple #[.agg (aV (⟨3, 0, ⟨s1, s2, n, m⟩, (⟨#[]⟩ : ByteArray)⟩ : S40)), .int .i64 170])) W') ∨ (er = 0 ∧ line_sum.f s1 s2 n m = some true ∧ nx ≤ l.length ∧ markB l nx 40 = true ∧ ∃ k : Nat, byAt l nx = some k ∧ ∀ W', FR W W' g → RD w0 W' g A c l (nx + 3) → Q (.returned (.tuple #[.agg (aV (⟨3, (k : Int), ⟨s1, s2, n, m⟩, (⟨#[]⟩ : ByteArray)⟩ : S40)), .int .i64 0])) W')) :
  Calls Tryz.prog 47 #[.pointer (some ⟨g, 0, none⟩)] W fun e W' => Q e W' := by
 have HR := Aside0.mk h
 have HT := Aside0.mk hT
 have HD := Aside0.mk hD
 have HM := Aside0.mk hM
 have HG := Aside0.mk hG
 have HL := Aside0.mk hl
 have HS := Aside0.mk hs
 have hlt : a < l.length := (List.getElem?_eq_some_iff.1 ht).1
 have HTT := Aside0.mk ht
 have HE := Aside0.mk (show decide (l.length ≤ a) = false from decide_eq_false (by omega))
 have p0 := eq_true (show (0 : Int) ≤ (a : Int) by omega)
 have q0 := eq_true (show (a : Int) < (l.length : Int) by omega)
 obtain ⟨a1, e1⟩ : ∃ x, x = a + 1 := ⟨_, rfl⟩
 have hb1 : wrap64 ((a : Int) + 1) = (a1 : Int) := by unfold wrap64; omega
 have E1 := Aside0.mk e1
 have k0 : (t.f0 == 3) = false := beq_eq_false_iff_ne.2 hk
 have HQ := Aside0.mk hq
 have HMK := Aside0.mk hm
 have HP := Aside0.mk hp
 have HA := Aside0.mk ha
 have hb0 : wrap64 ((a : Int) + 0) = (a : Int) := by unfold wrap64; omega
 have HC := Aside0.mk hc
 clear hc
 clear h hl ha hs hT hD hM hG hlt hk e1 ht hq hm hp
 go_enter Tryz.func47, Tryz.ntmps47
 go_wp2_with (first | ((with_reducible refine gate_dst (N := 2) rfl ?_); refine box_event ?hg (N := 2) ?hd (cs := #[.int .u8 0, .int .i64 0, .string (⟨#[]⟩ : ByteArray), .string (⟨#[]⟩ : ByteArray), .int .i64 0, .int .u8 0, .string (⟨#[]⟩ : ByteArray)]) (t := 40) ?hr ?_; (case hd => rfl); (case hg => rfl); (case hr => exact qbe1); intro p hg w1 hbox hb; have AR1 : Aside0 (AR w0 W w1 g A c l a p z40) := ⟨⟨FR.of_below hb, by rw [hg]; exact Nat.le_refl _, HR.out.below hb, hbox, by rw [hg]; exact HR.out.bel.size, by rw [hg]; exact Nat.ne_of_lt (blk_lt HR.out.blk)⟩⟩; clear hb hbox hg))
 have c0 := AR1.out.rd.cell0
 have c1 := AR1.out.rd.cell1
 obtain ⟨ad, rfl, x0, x1, x2⟩ := AR1.out.rd.tok2 a t HTT.out
 go_quiet (first | (go_at_call 27; (with_reducible refine (end_walk w0 _ g (some ad) c l a (AR1.out.rd.drewN _) false HE.out).mono ?_); rintro e w5 ⟨rfl, ⟨nd, rfl⟩⟩; first | exact ⟨rfl, _, World.drewN_drewN _ _ _⟩ | exact ⟨rfl, _, Eq.trans (World.drewN_drewN _ _ _) (congrArg (World.drewN _) (Nat.add_assoc _ _ _))⟩))
 have AR3 := Aside0.mk (AR1.out.drewN nq)
 go_wp2_with (first | (go_at_call 80; (with_reducible refine (register_walk w0 _ g (some ad) c l a HL.out HS.out HT.out HG.out AR3.out.rd none HQ.out).mono ?_); rintro e w2 ⟨rfl, hp, hf⟩; have AR4 := Aside0.mk (AR3.out.step hf hp); have v0 := (blk_cell AR4.out.box 0); have v1 := (blk_cell AR4.out.box 1); have v2 := (blk_cell AR4.out.box 2); have v3 := (blk_cell AR4.out.box 3); have v4 := (blk_cell AR4.out.box 4); have v5 := (blk_cell AR4.out.box 5); have v6 := (blk_cell AR4.out.box 6); have vf0 := blk_frozen AR4.out.box 0; have vf1 := blk_frozen AR4.out.box 1; have vf2 := blk_frozen AR4.out.box 2; have vf3 := blk_frozen AR4.out.box 3; have vf4 := blk_frozen AR4.out.box 4; have vf5 := blk_frozen AR4.out.box 5; have vf6 := blk_frozen AR4.out.box 6; simp only [aV, z40, z38, List.getElem?_toArray, List.getElem?_cons_zero, List.getElem?_cons_succ] at v0 v1 v2 v3 v4 v5 v6; clear hp hf) | (go_at_call 44; (with_reducible refine (is_walk w0 _ g (some ad) c l a a 0 40 hb0 (AR4.out.setx (y := (⟨2, 0, z38, (⟨#[]⟩ : ByteArray)⟩ : S40)) 0 (.int .u8 2) rfl).rd false HMK.out).mono ?_); rintro e w3 ⟨rfl, ⟨nd2, rfl⟩⟩; skip))
 obtain ⟨w5, hw5, AR7⟩ : ∃ V, ((w2.setCell ⟨p, 0, none⟩ (.int .u8 2)).drewN nd2) = V ∧ Aside0 (AR w0 W V g (some ad) c l a p (⟨2, 0, z38, (⟨#[]⟩ : ByteArray)⟩ : S40)) := ⟨_, rfl, ⟨(AR4.out.setx (y := (⟨2, 0, z38, (⟨#[]⟩ : ByteArray)⟩ : S40)) 0 (.int .u8 2) rfl).drewN nd2⟩⟩
 rw [hw5]
 clear hw5 AR1 AR3 AR4 c0 c1 x0 x1 x2 v0 v1 v2 v3 v4 v5 v6 vf0 vf1 vf2 vf3 vf4 vf5 vf6
 have g0 := AR7.out.rd.cell0
 have g1 := AR7.out.rd.cell1
 refine start_ (n := 20) (S := fun w' => w'.cell? ⟨g, 0, none⟩ = some (.slice (some ad) l.length c) ∧ w'.cell? ⟨g, 1, none⟩ = some (.int .i64 (a : Int))) (ds := [15, 18]) #[false, false, false, false, false, false, false, false, false, false, false, false, false, false, false, false, false, false, false, false] (by kernel_rfl) rfl rfl ⟨g0, g1⟩ (fun hHeld => ?_)
 refine pure_ (i := 0) (N := some 55) (v := ?_) (a' := ?_) #[true, false, false, false, false, false, false, false, false, false, false, false, false, false, false, false, false, false, false, false] rfl rfl (by kernel_rfl) (fun _ _ _ h => h) (Or.inl ⟨by rfl, ?_⟩) ?_ ?_
 rotate_left
 ·
  intro w'
  go_simp
  with_reducible rfl
 rotate_left
 ·
  simp only [Act.put, List.setIfInBounds_toArray, List.set_cons_zero, List.set_cons_succ, i64_w, i32_w]
  rfl
 refine pure_ (i := 1) (N := some 56) (v := ?_) (a' := ?_) #[true, true, false, false, false, false, false, false, false, false, false, false, false, false, false, false, false, false, false, false] rfl rfl (by kernel_rfl) (fun _ _ _ h => h) (Or.inl ⟨by rfl, ?_⟩) ?_ ?_
 rotate_left
 ·
  intro w'
  go_simp
  with_reducible rfl
 rotate_left
 ·
  simp only [Act.put, List.setIfInBounds_toArray, List.set_cons_zero, List.set_cons_succ, i64_w, i32_w]
  rfl
 refine pure_ (i := 2) (N := some 57) (v := ?_) (a' := ?_) #[true, true, true, false, false, false, false, false, false, false, false, false, false, false, false, false, false, false, false, false] rfl rfl (by kernel_rfl) (fun _ _ _ h => h) (Or.inl ⟨by rfl, ?_⟩) ?_ ?_
 rotate_left
 ·
  intro w'
  go_simp
  with_reducible rfl
 rotate_left
 ·
  simp only [Act.put, List.setIfInBounds_toArray, List.set_cons_zero, List.set_cons_succ, i64_w, i32_w]
  rfl
 refine pure_ (i := 3) (N := some 58) (v := ?_) (a' := ?_) #[true, true, true, true, false, false, false, false, false, false, false, false, false, false, false, false, false, false, false, false] rfl rfl (by kernel_rfl) (fun _ _ _ h => h) (Or.inl ⟨by rfl, ?_⟩) ?_ ?_
 rotate_left
 ·
  intro w'
  go_simp
  with_reducible rfl
 rotate_left
 ·
  simp only [Act.put, List.setIfInBounds_toArray, List.set_cons_zero, List.set_cons_succ, i64_w, i32_w]
  rfl
 refine pure_ (i := 5) (N := some 60) (v := ?_) (a' := ?_) #[true, true, true, true, false, true, false, false, false, false, false, false, false, false, false, false, false, false, false, false] rfl rfl (by kernel_rfl) (fun _ _ _ h => h) (Or.inl ⟨by rfl, ?_⟩) ?_ ?_
 rotate_left
 ·
  intro w'
  go_simp
  with_reducible rfl
 rotate_left
 ·
  simp only [Act.put, List.setIfInBounds_toArray, List.set_cons_zero, List.set_cons_succ, i64_w, i32_w]
  rfl
 refine pure_ (i := 6) (N := some 61) (v := ?_) (a' := ?_) #[true, true, true, true, false, true, true, false, false, false, false, false, false, false, false, false, false, false, false, false] rfl rfl (by kernel_rfl) (fun _ _ _ h => h) (Or.inl ⟨by rfl, ?_⟩) ?_ ?_
 rotate_left
 ·
  intro w'
  go_simp
  with_reducible rfl
 rotate_left
 ·
  simp only [Act.put, List.setIfInBounds_toArray, List.set_cons_zero, List.set_cons_succ, i64_w, i32_w]
  rfl
 refine pure_ (i := 7) (N := some 62) (v := ?_) (a' := ?_) #[true, true, true, true, false, true, true, true, false, false, false, false, false, false, false, false, false, false, false, false] rfl rfl (by kernel_rfl) (fun _ _ _ h => h) (Or.inl ⟨by rfl, ?_⟩) ?_ ?_
 rotate_left
 ·
  intro w'
  go_simp
  with_reducible rfl
 rotate_left
 ·
  simp only [Act.put, List.setIfInBounds_toArray, List.set_cons_zero, List.set_cons_succ, i64_w, i32_w]
  rfl
 refine take_ (i := 4) (N := some 59) (v := ?_) (a' := ?_) #[true, true, true, true, true, true, true, true, false, false, false, false, false, false, false, false, false, false, false, false] rfl rfl (by kernel_rfl) (fun _ _ _ h => h) (Or.inl ⟨by rfl, ?_⟩) hHeld ?_ ?_
 rotate_left
 ·
  rintro w' ⟨s0, s1⟩
  go_simp
  with_reducible rfl
 rotate_left
 ·
  simp only [Act.put, List.setIfInBounds_toArray, List.set_cons_zero, List.set_cons_succ, i64_w, i32_w]
  rfl
 refine take_ (i := 8) (N := some 63) (v := ?_) (a' := ?_) #[true, true, true, true, true, true, true, true, true, false, false, false, false, false, false, false, false, false, false, false] rfl rfl (by kernel_rfl) (fun _ _ _ h => h) (Or.inl ⟨by rfl, ?_⟩) hHeld ?_ ?_
 rotate_left
 ·
  rintro w' ⟨s0, s1⟩
  go_simp
  with_reducible rfl
 rotate_left
 ·
  simp only [Act.put, List.setIfInBounds_toArray, List.set_cons_zero, List.set_cons_succ, i64_w, i32_w]
  rfl
 refine one_ (i := 9) (N := some 64) #[true, true, true, true, true, true, true, true, true, true, false, false, false, false, false, false, false, false, false, false] rfl rfl (by kernel_rfl) (by decide) (fun K hK => ?_)
 have hT9 := Lib.tabBelow_of_tabIs HT.out _ AR7.out.drew.rd.bel
 refine goes_ Tryz.func81 (by kernel_rfl) rfl #[.slice (some ad) l.length c, .int .i64 (a : Int)] (by rfl) rfl rfl qbe0 ?_
 with_reducible refine (expr_Parse.calls (some ad) c l (a : Int) s1 s2 n m (nx : Int) er _ (Kd.C_below AR7.out.rd.row AR7.out.drew.rd.bel) AR7.out.rd.cap hT9 (HD.out.below AR7.out.drew.rd.bel) (HM.out.below AR7.out.drew.rd.bel) HP.out).mono ?_
 rintro e w6 ⟨rfl, hb⟩
 refine ⟨_, rfl, ?_⟩
 have AR8 := Aside0.mk (AR7.out.drew.below hb)
 refine hK.out _ _ ⟨((hb.cell (World.block_lt_of_cell? _ _ hHeld.1)).trans hHeld.1), ((hb.cell (World.block_lt_of_cell? _ _ hHeld.2)).trans hHeld.2)⟩ (fun hHeld => ?_)
 clear hK K
 refine norm_ (a' := ?_) ?_ ?_
 rotate_left
 ·
  show Act.put _ (some 64) _ = _
  simp only [Act.put, List.setIfInBounds_toArray, List.set_cons_zero, List.set_cons_succ, i64_w, i32_w]
  rfl
 refine pure_ (i := 10) (N := some 54) (v := ?_) (a' := ?_) #[true, true, true, true, true, true, true, true, true, true, true, false, false, false, false, false, false, false, false, false] rfl rfl (by kernel_rfl) (fun _ _ _ h => h) (Or.inl ⟨by rfl, ?_⟩) ?_ ?_
 rotate_left
 ·
  intro w'
  go_simp
  with_reducible rfl
 rotate_left
 ·
  simp only [Act.put, List.setIfInBounds_toArray, List.set_cons_zero, List.set_cons_succ, i64_w, i32_w]
  rfl
 refine pure_ (i := 11) (N := some 65) (v := ?_) (a' := ?_) #[true, true, true, true, true, true, true, true, true, true, true, true, false, false, false, false, false, false, false, false] rfl rfl (by kernel_rfl) (fun _ _ _ h => h) (Or.inl ⟨by rfl, ?_⟩) ?_ ?_
 rotate_left
 ·
  intro w'
  go_simp
  with_reducible rfl
 rotate_left
 ·
  simp only [Act.put, List.setIfInBounds_toArray, List.set_cons_zero, List.set_cons_succ, i64_w, i32_w]
  rfl
 refine pure_ (i := 12) (N := some 66) (v := ?_) (a' := ?_) #[true, true, true, true, true, true, true, true, true, true, true, true, true, false, false, false, false, false, false, false] rfl rfl (by kernel_rfl) (fun _ _ _ h => h) (Or.inl ⟨by rfl, ?_⟩) ?_ ?_
 rotate_left
 ·
  intro w'
  go_simp
  with_reducible rfl
 rotate_left
 ·
  simp only [Act.put, List.setIfInBounds_toArray, List.set_cons_zero, List.set_cons_succ, i64_w, i32_w]
  rfl
 refine pure_ (i := 13) (N := some 67) (v := ?_) (a' := ?_) #[true, true, true, true, true, true, true, true, true, true, true, true, true, true, false, false, false, false, false, false] rfl rfl (by kernel_rfl) (fun _ _ _ h => h) (Or.inl ⟨by rfl, ?_⟩) ?_ ?_
 rotate_left
 ·
  intro w'
  go_simp
  with_reducible rfl
 rotate_left
 ·
  simp only [Act.put, List.setIfInBounds_toArray, List.set_cons_zero, List.set_cons_succ, i64_w, i32_w]
  rfl
 refine pure_ (i := 14) (N := some 68) (v := ?_) (a' := ?_) #[true, true, true, true, true, true, true, true, true, true, true, true, true, true, true, false, false, false, false, false] rfl rfl (by kernel_rfl) (fun _ _ _ h => h) (Or.inl ⟨by rfl, ?_⟩) ?_ ?_
 rotate_left
 ·
  intro w'
  go_simp
  with_reducible rfl
 rotate_left
 ·
  simp only [Act.put, List.setIfInBounds_toArray, List.set_cons_zero, List.set_cons_succ, i64_w, i32_w]
  rfl
 refine last_ (i := 15) (N := none) #[true, true, true, true, true, true, true, true, true, true, true, true, true, true, true, true, false, false, false, false] rfl rfl (by kernel_rfl) (by decide) (fun K hK => ?_)
 have v0 := (blk_cell AR8.out.box 0)
 have v1 := (blk_cell AR8.out.box 1)
 have v2 := (blk_cell AR8.out.box 2)
 have v3 := (blk_cell AR8.out.box 3)
 have v4 := (blk_cell AR8.out.box 4)
 have v5 := (blk_cell AR8.out.box 5)
 have v6 := (blk_cell AR8.out.box 6)
 have vf0 := blk_frozen AR8.out.box 0
 have vf1 := blk_frozen AR8.out.box 1
 have vf2 := blk_frozen AR8.out.box 2
 have vf3 := blk_frozen AR8.out.box 3
 have vf4 := blk_frozen AR8.out.box 4
 have vf5 := blk_frozen AR8.out.box 5
 have vf6 := blk_frozen AR8.out.box 6
 simp only [aV, z40, z38, List.getElem?_toArray, List.getElem?_cons_zero, List.getElem?_cons_succ] at v0 v1 v2 v3 v4 v5 v6
 refine skip_ (w1 := ?_) (by rfl) rfl ?_ ?_
 rotate_left
 ·
  go_simp
  rfl
 refine hK.out _ _ ?_
 clear hK K
 refine pure_ (i := 16) (N := some 69) (v := ?_) (a' := ?_) #[true, true, true, true, true, true, true, true, true, true, true, true, true, true, true, true, true, false, false, false] rfl rfl (by kernel_rfl) (fun _ _ _ h => h) (Or.inl ⟨by rfl, ?_⟩) ?_ ?_
 rotate_left
 ·
  intro w'
  go_simp
  with_reducible rfl
 rotate_left
 ·
  simp only [Act.put, List.setIfInBounds_toArray, List.set_cons_zero, List.set_cons_succ, i64_w, i32_w]
  rfl
 refine pure_ (i := 17) (N := some 70) (v := ?_) (a' := ?_) #[true, true, true, true, true, true, true, true, true, true, true, true, true, true, true, true, true, true, false, false] rfl rfl (by kernel_rfl) (fun _ _ _ h => h) (Or.inl ⟨by rfl, ?_⟩) ?_ ?_
 rotate_left
 ·
  intro w'
  go_simp
  with_reducible rfl
 rotate_left
 ·
  simp only [Act.put, List.setIfInBounds_toArray, List.set_cons_zero, List.set_cons_succ, i64_w, i32_w]
  rfl
 refine last_ (i := 18) (N := none) #[true, true, true, true, true, true, true, true, true, true, true, true, true, true, true, true, true, true, true, false] rfl rfl (by kernel_rfl) (by decide) (fun K hK => ?_)
 have y1 := AR8.out.rd.cell1
 have yf := blk_frozen AR8.out.rd.blk 1
 have ng : g ≠ p := AR8.out.ne
 have ng2 : p ≠ g := ng.symm
 refine skip_ (w1 := ?_) (by rfl) rfl ?_ ?_
 rotate_left
 ·
  go_simp
  rfl
 refine hK.out _ _ ?_
 clear hK K
 refine pure_ (i := 19) (N := some 3) (v := ?_) (a' := ?_) #[true, true, true, true, true, true, true, true, true, true, true, true, true, true, true, true, true, true, true, true] rfl rfl (by kernel_rfl) (fun _ _ _ h => h) (Or.inl ⟨by rfl, ?_⟩) ?_ ?_
 rotate_left
 ·
  intro w'
  go_simp
  with_reducible rfl
 rotate_left
 ·
  simp only [Act.put, List.setIfInBounds_toArray, List.set_cons_zero, List.set_cons_succ, i64_w, i32_w]
  rfl
 refine done_ (by kernel_rfl) ?_
 obtain ⟨w9, hw9, AR9⟩ : ∃ V, (((((w6.setCell ⟨p, 2, none⟩ (.string s1)).setCell ⟨p, 3, none⟩ (.string s2)).setCell ⟨p, 4, none⟩ (.int .i64 n)).setCell ⟨p, 5, none⟩ (.int .u8 m)).setCell ⟨g, 1, none⟩ (.int .i64 (nx : Int))) = V ∧ Aside0 (AR w0 W V g (some ad) c l nx p (⟨2, 0, ⟨s1, s2, n, m⟩, (⟨#[]⟩ : ByteArray)⟩ : S40)) := ⟨_, rfl, ⟨((((AR8.out.setx (y := ⟨2, 0, ⟨s1, (⟨#[]⟩ : ByteArray), 0, 0⟩, (⟨#[]⟩ : ByteArray)⟩) 2 (.string s1) rfl).setx (y := ⟨2, 0, ⟨s1, s2, 0, 0⟩, (⟨#[]⟩ : ByteArray)⟩) 3 (.string s2) rfl).setx (y := ⟨2, 0, ⟨s1, s2, n, 0⟩, (⟨#[]⟩ : ByteArray)⟩) 4 (.int .i64 n) rfl).setx (y := (⟨2, 0, ⟨s1, s2, n, m⟩, (⟨#[]⟩ : ByteArray)⟩ : S40)) 5 (.int .u8 m) rfl).seti nx⟩⟩
 rw [hw9]
 clear hw9 AR7 AR8 g0 g1
 rcases HC.out with ⟨he, hQ⟩ | ⟨he, hsum, hQ⟩ | ⟨he, hsum, hnx, hmn, hQ⟩ | ⟨he, hsum, hnx, hmn, ho, hQ⟩ | ⟨he, hsum, hnx, hmn, k, ho, hQ⟩
 ·
  have r0 : (er == 0) = false := beq_eq_false_iff_ne.2 he
  have r1 : (er != 0) = true := bne_iff_ne.2 he
  have HQQ := Aside0.mk hQ
  clear he HC hQ
  go_wp2
  refine bodyPost_ret (results_ct rfl _ _ p 40 (aV (⟨2, 0, ⟨s1, s2, n, m⟩, (⟨#[]⟩ : ByteArray)⟩ : S40)) (0, 0) _ rfl (AR9.out.box) Tryz.underlying40 rfl (by kernel_rfl)) rfl ?_
  exact HQQ.out _ AR9.out.fr ⟨_, AR9.out.rd⟩
 ·
  have r0 : (er == 0) = true := beq_iff_eq.2 he
  have r1 : (er != 0) = false := bne_eq_false_iff_eq.2 he
  have HER := Aside0.mk he
  have HSUM := Aside0.mk hsum
  have HQQ := Aside0.mk hQ
  clear he hsum HC hQ
  have q2 := (blk_cell AR9.out.box 2)
  have q3 := (blk_cell AR9.out.box 3)
  have q4 := (blk_cell AR9.out.box 4)
  have q5 := (blk_cell AR9.out.box 5)
  simp only [aV, List.getElem?_toArray, List.getElem?_cons_zero, List.getElem?_cons_succ] at q2 q3 q4 q5
  go_wp2_with (first | (go_at_call 52; have hTs := Lib.tabBelow_of_tabIs HT.out _ AR9.out.rd.bel; (with_reducible refine (line_sum.calls s1 s2 n m false _ hTs (HG.out.below AR9.out.rd.bel) HSUM.out).mono ?_); rintro e w10 ⟨rfl, hb⟩; have AR10 := Aside0.mk (AR9.out.below hb); skip; clear hb hTs))
  refine bodyPost_ret (results_ct rfl _ _ p 40 (aV (⟨2, 0, ⟨s1, s2, n, m⟩, (⟨#[]⟩ : ByteArray)⟩ : S40)) (0, 0) _ rfl (AR10.out.box) Tryz.underlying40 rfl (by kernel_rfl)) rfl ?_
  exact HQQ.out _ AR10.out.fr ⟨_, AR10.out.rd⟩
 ·
  have r0 : (er == 0) = true := beq_iff_eq.2 he
  have r1 : (er != 0) = false := bne_eq_false_iff_eq.2 he
  have HER := Aside0.mk he
  have HSUM := Aside0.mk hsum
  have HQQ := Aside0.mk hQ
  clear he hsum HC hQ
  have HMN := Aside0.mk hmn
  have HNX := Aside0.mk hnx
  have hbn : wrap64 ((nx : Int) + 0) = (nx : Int) := by have := HNX.out; have := HL.out; unfold wrap64; omega
  clear hmn hnx
  have q2 := (blk_cell AR9.out.box 2)
  have q3 := (blk_cell AR9.out.box 3)
  have q4 := (blk_cell AR9.out.box 4)
  have q5 := (blk_cell AR9.out.box 5)
  simp only [aV, List.getElem?_toArray, List.getElem?_cons_zero, List.getElem?_cons_succ] at q2 q3 q4 q5
  go_wp2_with (first | (go_at_call 52; have hTs := Lib.tabBelow_of_tabIs HT.out _ AR9.out.rd.bel; (with_reducible refine (line_sum.calls s1 s2 n m true _ hTs (HG.out.below AR9.out.rd.bel) HSUM.out).mono ?_); rintro e w10 ⟨rfl, hb⟩; have AR10 := Aside0.mk (AR9.out.below hb); skip; clear hb hTs) | (go_at_call 44; (with_reducible refine (is_walk w0 _ g (some ad) c l nx nx 0 40 hbn AR10.out.rd false HMN.out).mono ?_); rintro e w11 ⟨rfl, ⟨nd3, rfl⟩⟩; skip))
  have AR12 := Aside0.mk (AR10.out.drewN nd3)
  refine bodyPost_ret (results_ct rfl _ _ p 40 (aV (⟨2, 0, ⟨s1, s2, n, m⟩, (⟨#[]⟩ : ByteArray)⟩ : S40)) (0, 0) _ rfl (AR12.out.box) Tryz.underlying40 rfl (by kernel_rfl)) rfl ?_
  rw [HER.out]
  exact HQQ.out _ AR12.out.fr AR12.out.rd
 ·
  have r0 : (er == 0) = true := beq_iff_eq.2 he
  have r1 : (er != 0) = false := bne_eq_false_iff_eq.2 he
  have HER := Aside0.mk he
  have HSUM := Aside0.mk hsum
  have HQQ := Aside0.mk hQ
  clear he hsum HC hQ
  have HMN := Aside0.mk hmn
  have HNX := Aside0.mk hnx
  have hbn : wrap64 ((nx : Int) + 0) = (nx : Int) := by have := HNX.out; have := HL.out; unfold wrap64; omega
  clear hmn hnx
  have HO := Aside0.mk ho
  clear ho
  have q2 := (blk_cell AR9.out.box 2)
  have q3 := (blk_cell AR9.out.box 3)
  have q4 := (blk_cell AR9.out.box 4)
  have q5 := (blk_cell AR9.out.box 5)
  simp only [aV, List.getElem?_toArray, List.getElem?_cons_zero, List.getElem?_cons_succ] at q2 q3 q4 q5
  go_wp2_with (first | (go_at_call 52; have hTs := Lib.tabBelow_of_tabIs HT.out _ AR9.out.rd.bel; (with_reducible refine (line_sum.calls s1 s2 n m true _ hTs (HG.out.below AR9.out.rd.bel) HSUM.out).mono ?_); rintro e w10 ⟨rfl, hb⟩; have AR10 := Aside0.mk (AR9.out.below hb); have v0 := (blk_cell AR10.out.box 0); have v1 := (blk_cell AR10.out.box 1); have v2 := (blk_cell AR10.out.box 2); have v3 := (blk_cell AR10.out.box 3); have v4 := (blk_cell AR10.out.box 4); have v5 := (blk_cell AR10.out.box 5); have v6 := (blk_cell AR10.out.box 6); have vf0 := blk_frozen AR10.out.box 0; have vf1 := blk_frozen AR10.out.box 1; have vf2 := blk_frozen AR10.out.box 2; have vf3 := blk_frozen AR10.out.box 3; have vf4 := blk_frozen AR10.out.box 4; have vf5 := blk_frozen AR10.out.box 5; have vf6 := blk_frozen AR10.out.box 6; simp only [aV, List.getElem?_toArray, List.getElem?_cons_zero, List.getElem?_cons_succ] at v0 v1 v2 v3 v4 v5 v6; clear hb hTs) | (go_at_call 44; (with_reducible refine (is_walk w0 _ g (some ad) c l nx nx 0 40 hbn AR10.out.rd true HMN.out).mono ?_); rintro e w11 ⟨rfl, ⟨nd3, rfl⟩⟩; skip) | (go_at_call 82; (with_reducible refine (by_walk w0 _ g (some ad) c l nx HL.out (by have := HNX.out; have := HL.out; omega) HS.out HT.out HG.out ((AR10.out.drewN nd3).setx (y := (⟨3, 0, ⟨s1, s2, n, m⟩, (⟨#[]⟩ : ByteArray)⟩ : S40)) 0 (.int .u8 3) rfl).rd _ HO.out).mono ?_); rintro e w4 ⟨rfl, hf, a', hp, hq⟩; have AR14 := Aside0.mk (((AR10.out.drewN nd3).setx (y := (⟨3, 0, ⟨s1, s2, n, m⟩, (⟨#[]⟩ : ByteArray)⟩ : S40)) 0 (.int .u8 3) rfl).step hf hp); have HQ8 := Aside0.mk hq; have v0 := (blk_cell AR14.out.box 0); have v1 := (blk_cell AR14.out.box 1); have v2 := (blk_cell AR14.out.box 2); have v3 := (blk_cell AR14.out.box 3); have v4 := (blk_cell AR14.out.box 4); have v5 := (blk_cell AR14.out.box 5); have v6 := (blk_cell AR14.out.box 6); have vf0 := blk_frozen AR14.out.box 0; have vf1 := blk_frozen AR14.out.box 1; have vf2 := blk_frozen AR14.out.box 2; have vf3 := blk_frozen AR14.out.box 3; have vf4 := blk_frozen AR14.out.box 4; have vf5 := blk_frozen AR14.out.box 5; have vf6 := blk_frozen AR14.out.box 6; simp only [aV, List.getElem?_toArray, List.getElem?_cons_zero, List.getElem?_cons_succ] at v0 v1 v2 v3 v4 v5 v6; clear hp hf hq))
  have AR15 := Aside0.mk (AR14.out.setx (y := (⟨3, 0, ⟨s1, s2, n, m⟩, (⟨#[]⟩ : ByteArray)⟩ : S40)) 1 (.int .i64 0) rfl)
  refine bodyPost_ret (results_ct rfl _ _ p 40 (aV (⟨3, 0, ⟨s1, s2, n, m⟩, (⟨#[]⟩ : ByteArray)⟩ : S40)) (0, 0) _ rfl (AR15.out.box) Tryz.underlying40 rfl (by kernel_rfl)) rfl ?_
  exact HQQ.out _ AR15.out.fr ⟨_, AR15.out.rd⟩
 ·
  have r0 : (er == 0) = true := beq_iff_eq.2 he
  have r1 : (er != 0) = false := bne_eq_false_iff_eq.2 he
  have HER := Aside0.mk he
  have HSUM := Aside0.mk hsum
  have HQQ := Aside0.mk hQ
  clear he hsum HC hQ
  have HMN := Aside0.mk hmn
  have HNX := Aside0.mk hnx
  have hbn : wrap64 ((nx : Int) + 0) = (nx : Int) := by have := HNX.out; have := HL.out; unfold wrap64; omega
  clear hmn hnx
  have HO := Aside0.mk ho
  clear ho
  have q2 := (blk_cell AR9.out.box 2)
  have q3 := (blk_cell AR9.out.box 3)
  have q4 := (blk_cell AR9.out.box 4)
  have q5 := (blk_cell AR9.out.box 5)
  simp only [aV, List.getElem?_toArray, List.getElem?_cons_zero, List.getElem?_cons_succ] at q2 q3 q4 q5
  go_wp2_with (first | (go_at_call 52; have hTs := Lib.tabBelow_of_tabIs HT.out _ AR9.out.rd.bel; (with_reducible refine (line_sum.calls s1 s2 n m true _ hTs (HG.out.below AR9.out.rd.bel) HSUM.out).mono ?_); rintro e w10 ⟨rfl, hb⟩; have AR10 := Aside0.mk (AR9.out.below hb); have v0 := (blk_cell AR10.out.box 0); have v1 := (blk_cell AR10.out.box 1); have v2 := (blk_cell AR10.out.box 2); have v3 := (blk_cell AR10.out.box 3); have v4 := (blk_cell AR10.out.box 4); have v5 := (blk_cell AR10.out.box 5); have v6 := (blk_cell AR10.out.box 6); have vf0 := blk_frozen AR10.out.box 0; have vf1 := blk_frozen AR10.out.box 1; have vf2 := blk_frozen AR10.out.box 2; have vf3 := blk_frozen AR10.out.box 3; have vf4 := blk_frozen AR10.out.box 4; have vf5 := blk_frozen AR10.out.box 5; have vf6 := blk_frozen AR10.out.box 6; simp only [aV, List.getElem?_toArray, List.getElem?_cons_zero, List.getElem?_cons_succ] at v0 v1 v2 v3 v4 v5 v6; clear hb hTs) | (go_at_call 44; (with_reducible refine (is_walk w0 _ g (some ad) c l nx nx 0 40 hbn AR10.out.rd true HMN.out).mono ?_); rintro e w11 ⟨rfl, ⟨nd3, rfl⟩⟩; skip) | (go_at_call 82; (with_reducible refine (by_walk w0 _ g (some ad) c l nx HL.out (by have := HNX.out; have := HL.out; omega) HS.out HT.out HG.out ((AR10.out.drewN nd3).setx (y := (⟨3, 0, ⟨s1, s2, n, m⟩, (⟨#[]⟩ : ByteArray)⟩ : S40)) 0 (.int .u8 3) rfl).rd _ HO.out).mono ?_); rintro e w4 ⟨rfl, hf, a', hp, hq⟩; have AR14 := Aside0.mk (((AR10.out.drewN nd3).setx (y := (⟨3, 0, ⟨s1, s2, n, m⟩, (⟨#[]⟩ : ByteArray)⟩ : S40)) 0 (.int .u8 3) rfl).step hf hp); have HQ8 := Aside0.mk hq; have v0 := (blk_cell AR14.out.box 0); have v1 := (blk_cell AR14.out.box 1); have v2 := (blk_cell AR14.out.box 2); have v3 := (blk_cell AR14.out.box 3); have v4 := (blk_cell AR14.out.box 4); have v5 := (blk_cell AR14.out.box 5); have v6 := (blk_cell AR14.out.box 6); have vf0 := blk_frozen AR14.out.box 0; have vf1 := blk_frozen AR14.out.box 1; have vf2 := blk_frozen AR14.out.box 2; have vf3 := blk_frozen AR14.out.box 3; have vf4 := blk_frozen AR14.out.box 4; have vf5 := blk_frozen AR14.out.box 5; have vf6 := blk_frozen AR14.out.box 6; simp only [aV, List.getElem?_toArray, List.getElem?_cons_zero, List.getElem?_cons_succ] at v0 v1 v2 v3 v4 v5 v6; clear hp hf hq))
  have AR15 := Aside0.mk (AR14.out.setx (y := (⟨3, (k : Int), ⟨s1, s2, n, m⟩, (⟨#[]⟩ : ByteArray)⟩ : S40)) 1 (.int .i64 (k : Int)) rfl)
  refine bodyPost_ret (results_ct rfl _ _ p 40 (aV (⟨3, (k : Int), ⟨s1, s2, n, m⟩, (⟨#[]⟩ : ByteArray)⟩ : S40)) (0, 0) _ rfl (AR15.out.box) Tryz.underlying40 rfl (by kernel_rfl)) rfl ?_
  exact HQQ.out _ AR15.out.fr ((HQ8.out rfl) ▸ AR15.out.rd)

set_option maxHeartbeats 8000000 in
set_option maxRecDepth 100000 in
theorem arg_out (w0 W : World) (g : Nat) (A : Option Addr) (c : Nat) (l : List S61) (a : Nat) (hl : l.length ≤ 1000000) (ha : a ≤ l.length) (hs : ∀ x ∈ l, x.f1.size ≤ 1000000) (hT : Lib.TabIs Tryz.prog w0 "internal/strconv.uint64pow10" .u64 Lib.pow10Tab) (hD : LexW.LexD w0) (hM : ExW.ModsAt w0) (hG : LiW.RegsAt w0) (h : RD w0 W g A c l a) (hlt : ¬ a < l.length) (hq : regAt l a = none) (hm : markB l a 40 = false) (s1 s2 : ByteArray) (n m er : Int) (nx : Nat) (hp : expr_Parse.f l (a : Int) = some (s1, s2, n, m, (nx : Int), er)) (he : er ≠ 0) :
  Calls Tryz.prog 47 #[.pointer (some ⟨g, 0, none⟩)] W fun e W' => e = .returned (.tuple #[.agg (aV (⟨2, 0, ⟨s1, s2, n, m⟩, (⟨#[]⟩ : ByteArray)⟩ : S40)), .int .i64 er]) ∧ FR W W' g ∧ ∃ a', RD w0 W' g A c l a' := by
 have HR := Aside0.mk h
 have HT := Aside0.mk hT
 have HD := Aside0.mk hD
 have HM := Aside0.mk hM
 have HG := Aside0.mk hG
 have HL := Aside0.mk hl
 have HS := Aside0.mk hs
 have HE := Aside0.mk (show decide (l.length ≤ a) = true from decide_eq_true (by omega))
 have HQ := Aside0.mk hq
 have HMK := Aside0.mk hm
 have HP := Aside0.mk hp
 have hb0 : wrap64 ((a : Int) + 0) = (a : Int) := by unfold wrap64; omega
 have r0 : (er == 0) = false := beq_eq_false_iff_ne.2 he
 have r1 : (er != 0) = true := bne_iff_ne.2 he
 clear h hl ha hs hT hD hM hG hlt hq hm hp he
 go_enter Tryz.func47, Tryz.ntmps47
 go_wp2_with (first | ((with_reducible refine gate_dst (N := 2) rfl ?_); refine box_event ?hg (N := 2) ?hd (cs := #[.int .u8 0, .int .i64 0, .string (⟨#[]⟩ : ByteArray), .string (⟨#[]⟩ : ByteArray), .int .i64 0, .int .u8 0, .string (⟨#[]⟩ : ByteArray)]) (t := 40) ?hr ?_; (case hd => rfl); (case hg => rfl); (case hr => exact qbe1); intro p hg w1 hbox hb; have AR1 : Aside0 (AR w0 W w1 g A c l a p z40) := ⟨⟨FR.of_below hb, by rw [hg]; exact Nat.le_refl _, HR.out.below hb, hbox, by rw [hg]; exact HR.out.bel.size, by rw [hg]; exact Nat.ne_of_lt (blk_lt HR.out.blk)⟩⟩; clear hb hbox hg))
 have c0 := AR1.out.rd.cell0
 have c1 := AR1.out.rd.cell1
 go_quiet (first | (go_at_call 27; (with_reducible refine (end_walk w0 _ g A c l a (AR1.out.rd.drewN _) true HE.out).mono ?_); rintro e w5 ⟨rfl, ⟨nd, rfl⟩⟩; first | exact ⟨rfl, _, World.drewN_drewN _ _ _⟩ | exact ⟨rfl, _, Eq.trans (World.drewN_drewN _ _ _) (congrArg (World.drewN _) (Nat.add_assoc _ _ _))⟩))
 have AR3 := Aside0.mk (AR1.out.drewN nq)
 go_wp2_with (first | (go_at_call 80; (with_reducible refine (register_walk w0 _ g A c l a HL.out HS.out HT.out HG.out AR3.out.rd none HQ.out).mono ?_); rintro e w2 ⟨rfl, hp, hf⟩; have AR4 := Aside0.mk (AR3.out.step hf hp); have v0 := (blk_cell AR4.out.box 0); have v1 := (blk_cell AR4.out.box 1); have v2 := (blk_cell AR4.out.box 2); have v3 := (blk_cell AR4.out.box 3); have v4 := (blk_cell AR4.out.box 4); have v5 := (blk_cell AR4.out.box 5); have v6 := (blk_cell AR4.out.box 6); have vf0 := blk_frozen AR4.out.box 0; have vf1 := blk_frozen AR4.out.box 1; have vf2 := blk_frozen AR4.out.box 2; have vf3 := blk_frozen AR4.out.box 3; have vf4 := blk_frozen AR4.out.box 4; have vf5 := blk_frozen AR4.out.box 5; have vf6 := blk_frozen AR4.out.box 6; simp only [aV, z40, z38, List.getElem?_toArray, List.getElem?_cons_zero, List.getElem?_cons_succ] at v0 v1 v2 v3 v4 v5 v6; clear hp hf) | (go_at_call 44; (with_reducible refine (is_walk w0 _ g A c l a a 0 40 hb0 (AR4.out.setx (y := (⟨2, 0, z38, (⟨#[]⟩ : ByteArray)⟩ : S40)) 0 (.int .u8 2) rfl).rd false HMK.out).mono ?_); rintro e w3 ⟨rfl, ⟨nd2, rfl⟩⟩; skip))
 obtain ⟨w5, hw5, AR7⟩ : ∃ V, ((w2.setCell ⟨p, 0, none⟩ (.int .u8 2)).drewN nd2) = V ∧ Aside0 (AR w0 W V g A c l a p (⟨2, 0, z38, (⟨#[]⟩ : ByteArray)⟩ : S40)) := ⟨_, rfl, ⟨(AR4.out.setx (y := (⟨2, 0, z38, (⟨#[]⟩ : ByteArray)⟩ : S40)) 0 (.int .u8 2) rfl).drewN nd2⟩⟩
 rw [hw5]
 clear hw5 AR1 AR3 AR4 c0 c1 v0 v1 v2 v3 v4 v5 v6 vf0 vf1 vf2 vf3 vf4 vf5 vf6
 have g0 := AR7.out.rd.cell0
 have g1 := AR7.out.rd.cell1
 refine start_ (n := 20) (S := fun w' => w'.cell? ⟨g, 0, none⟩ = some (.slice A l.length c) ∧ w'.cell? ⟨g, 1, none⟩ = some (.int .i64 (a : Int))) (ds := [15, 18]) #[false, false, false, false, false, false, false, false, false, false, false, false, false, false, false, false, false, false, false, false] (by kernel_rfl) rfl rfl ⟨g0, g1⟩ (fun hHeld => ?_)
 refine pure_ (i := 0) (N := some 55) (v := ?_) (a' := ?_) #[true, false, false, false, false, false, false, false, false, false, false, false, false, false, false, false, false, false, false, false] rfl rfl (by kernel_rfl) (fun _ _ _ h => h) (Or.inl ⟨by rfl, ?_⟩) ?_ ?_
 rotate_left
 ·
  intro w'
  go_simp
  with_reducible rfl
 rotate_left
 ·
  simp only [Act.put, List.setIfInBounds_toArray, List.set_cons_zero, List.set_cons_succ, i64_w, i32_w]
  rfl
 refine pure_ (i := 1) (N := some 56) (v := ?_) (a' := ?_) #[true, true, false, false, false, false, false, false, false, false, false, false, false, false, false, false, false, false, false, false] rfl rfl (by kernel_rfl) (fun _ _ _ h => h) (Or.inl ⟨by rfl, ?_⟩) ?_ ?_
 rotate_left
 ·
  intro w'
  go_simp
  with_reducible rfl
 rotate_left
 ·
  simp only [Act.put, List.setIfInBounds_toArray, List.set_cons_zero, List.set_cons_succ, i64_w, i32_w]
  rfl
 refine pure_ (i := 2) (N := some 57) (v := ?_) (a' := ?_) #[true, true, true, false, false, false, false, false, false, false, false, false, false, false, false, false, false, false, false, false] rfl rfl (by kernel_rfl) (fun _ _ _ h => h) (Or.inl ⟨by rfl, ?_⟩) ?_ ?_
 rotate_left
 ·
  intro w'
  go_simp
  with_reducible rfl
 rotate_left
 ·
  simp only [Act.put, List.setIfInBounds_toArray, List.set_cons_zero, List.set_cons_succ, i64_w, i32_w]
  rfl
 refine pure_ (i := 3) (N := some 58) (v := ?_) (a' := ?_) #[true, true, true, true, false, false, false, false, false, false, false, false, false, false, false, false, false, false, false, false] rfl rfl (by kernel_rfl) (fun _ _ _ h => h) (Or.inl ⟨by rfl, ?_⟩) ?_ ?_
 rotate_left
 ·
  intro w'
  go_simp
  with_reducible rfl
 rotate_left
 ·
  simp only [Act.put, List.setIfInBounds_toArray, List.set_cons_zero, List.set_cons_succ, i64_w, i32_w]
  rfl
 refine pure_ (i := 5) (N := some 60) (v := ?_) (a' := ?_) #[true, true, true, true, false, true, false, false, false, false, false, false, false, false, false, false, false, false, false, false] rfl rfl (by kernel_rfl) (fun _ _ _ h => h) (Or.inl ⟨by rfl, ?_⟩) ?_ ?_
 rotate_left
 ·
  intro w'
  go_simp
  with_reducible rfl
 rotate_left
 ·
  simp only [Act.put, List.setIfInBounds_toArray, List.set_cons_zero, List.set_cons_succ, i64_w, i32_w]
  rfl
 refine pure_ (i := 6) (N := some 61) (v := ?_) (a' := ?_) #[true, true, true, true, false, true, true, false, false, false, false, false, false, false, false, false, false, false, false, false] rfl rfl (by kernel_rfl) (fun _ _ _ h => h) (Or.inl ⟨by rfl, ?_⟩) ?_ ?_
 rotate_left
 ·
  intro w'
  go_simp
  with_reducible rfl
 rotate_left
 ·
  simp only [Act.put, List.setIfInBounds_toArray, List.set_cons_zero, List.set_cons_succ, i64_w, i32_w]
  rfl
 refine pure_ (i := 7) (N := some 62) (v := ?_) (a' := ?_) #[true, true, true, true, false, true, true, true, false, false, false, false, false, false, false, false, false, false, false, false] rfl rfl (by kernel_rfl) (fun _ _ _ h => h) (Or.inl ⟨by rfl, ?_⟩) ?_ ?_
 rotate_left
 ·
  intro w'
  go_simp
  with_reducible rfl
 rotate_left
 ·
  simp only [Act.put, List.setIfInBounds_toArray, List.set_cons_zero, List.set_cons_succ, i64_w, i32_w]
  rfl
 refine take_ (i := 4) (N := some 59) (v := ?_) (a' := ?_) #[true, true, true, true, true, true, true, true, false, false, false, false, false, false, false, false, false, false, false, false] rfl rfl (by kernel_rfl) (fun _ _ _ h => h) (Or.inl ⟨by rfl, ?_⟩) hHeld ?_ ?_
 rotate_left
 ·
  rintro w' ⟨s0, s1⟩
  go_simp
  with_reducible rfl
 rotate_left
 ·
  simp only [Act.put, List.setIfInBounds_toArray, List.set_cons_zero, List.set_cons_succ, i64_w, i32_w]
  rfl
 refine take_ (i := 8) (N := some 63) (v := ?_) (a' := ?_) #[true, true, true, true, true, true, true, true, true, false, false, false, false, false, false, false, false, false, false, false] rfl rfl (by kernel_rfl) (fun _ _ _ h => h) (Or.inl ⟨by rfl, ?_⟩) hHeld ?_ ?_
 rotate_left
 ·
  rintro w' ⟨s0, s1⟩
  go_simp
  with_reducible rfl
 rotate_left
 ·
  simp only [Act.put, List.setIfInBounds_toArray, List.set_cons_zero, List.set_cons_succ, i64_w, i32_w]
  rfl
 refine one_ (i := 9) (N := some 64) #[true, true, true, true, true, true, true, true, true, true, false, false, false, false, false, false, false, false, false, false] rfl rfl (by kernel_rfl) (by decide) (fun K hK => ?_)
 have hT9 := Lib.tabBelow_of_tabIs HT.out _ AR7.out.drew.rd.bel
 refine goes_ Tryz.func81 (by kernel_rfl) rfl #[.slice A l.length c, .int .i64 (a : Int)] (by rfl) rfl rfl qbe0 ?_
 with_reducible refine (expr_Parse.calls A c l (a : Int) s1 s2 n m (nx : Int) er _ (Kd.C_below AR7.out.rd.row AR7.out.drew.rd.bel) AR7.out.rd.cap hT9 (HD.out.below AR7.out.drew.rd.bel) (HM.out.below AR7.out.drew.rd.bel) HP.out).mono ?_
 rintro e w6 ⟨rfl, hb⟩
 refine ⟨_, rfl, ?_⟩
 have AR8 := Aside0.mk (AR7.out.drew.below hb)
 refine hK.out _ _ ⟨((hb.cell (World.block_lt_of_cell? _ _ hHeld.1)).trans hHeld.1), ((hb.cell (World.block_lt_of_cell? _ _ hHeld.2)).trans hHeld.2)⟩ (fun hHeld => ?_)
 clear hK K
 refine norm_ (a' := ?_) ?_ ?_
 rotate_left
 ·
  show Act.put _ (some 64) _ = _
  simp only [Act.put, List.setIfInBounds_toArray, List.set_cons_zero, List.set_cons_succ, i64_w, i32_w]
  rfl
 refine pure_ (i := 10) (N := some 54) (v := ?_) (a' := ?_) #[true, true, true, true, true, true, true, true, true, true, true, false, false, false, false, false, false, false, false, false] rfl rfl (by kernel_rfl) (fun _ _ _ h => h) (Or.inl ⟨by rfl, ?_⟩) ?_ ?_
 rotate_left
 ·
  intro w'
  go_simp
  with_reducible rfl
 rotate_left
 ·
  simp only [Act.put, List.setIfInBounds_toArray, List.set_cons_zero, List.set_cons_succ, i64_w, i32_w]
  rfl
 refine pure_ (i := 11) (N := some 65) (v := ?_) (a' := ?_) #[true, true, true, true, true, true, true, true, true, true, true, true, false, false, false, false, false, false, false, false] rfl rfl (by kernel_rfl) (fun _ _ _ h => h) (Or.inl ⟨by rfl, ?_⟩) ?_ ?_
 rotate_left
 ·
  intro w'
  go_simp
  with_reducible rfl
 rotate_left
 ·
  simp only [Act.put, List.setIfInBounds_toArray, List.set_cons_zero, List.set_cons_succ, i64_w, i32_w]
  rfl
 refine pure_ (i := 12) (N := some 66) (v := ?_) (a' := ?_) #[true, true, true, true, true, true, true, true, true, true, true, true, true, false, false, false, false, false, false, false] rfl rfl (by kernel_rfl) (fun _ _ _ h => h) (Or.inl ⟨by rfl, ?_⟩) ?_ ?_
 rotate_left
 ·
  intro w'
  go_simp
  with_reducible rfl
 rotate_left
 ·
  simp only [Act.put, List.setIfInBounds_toArray, List.set_cons_zero, List.set_cons_succ, i64_w, i32_w]
  rfl
 refine pure_ (i := 13) (N := some 67) (v := ?_) (a' := ?_) #[true, true, true, true, true, true, true, true, true, true, true, true, true, true, false, false, false, false, false, false] rfl rfl (by kernel_rfl) (fun _ _ _ h => h) (Or.inl ⟨by rfl, ?_⟩) ?_ ?_
 rotate_left
 ·
  intro w'
  go_simp
  with_reducible rfl
 rotate_left
 ·
  simp only [Act.put, List.setIfInBounds_toArray, List.set_cons_zero, List.set_cons_succ, i64_w, i32_w]
  rfl
 refine pure_ (i := 14) (N := some 68) (v := ?_) (a' := ?_) #[true, true, true, true, true, true, true, true, true, true, true, true, true, true, true, false, false, false, false, false] rfl rfl (by kernel_rfl) (fun _ _ _ h => h) (Or.inl ⟨by rfl, ?_⟩) ?_ ?_
 rotate_left
 ·
  intro w'
  go_simp
  with_reducible rfl
 rotate_left
 ·
  simp only [Act.put, List.setIfInBounds_toArray, List.set_cons_zero, List.set_cons_succ, i64_w, i32_w]
  rfl
 refine last_ (i := 15) (N := none) #[true, true, true, true, true, true, true, true, true, true, true, true, true, true, true, true, false, false, false, false] rfl rfl (by kernel_rfl) (by decide) (fun K hK => ?_)
 have v0 := (blk_cell AR8.out.box 0)
 have v1 := (blk_cell AR8.out.box 1)
 have v2 := (blk_cell AR8.out.box 2)
 have v3 := (blk_cell AR8.out.box 3)
 have v4 := (blk_cell AR8.out.box 4)
 have v5 := (blk_cell AR8.out.box 5)
 have v6 := (blk_cell AR8.out.box 6)
 have vf0 := blk_frozen AR8.out.box 0
 have vf1 := blk_frozen AR8.out.box 1
 have vf2 := blk_frozen AR8.out.box 2
 have vf3 := blk_frozen AR8.out.box 3
 have vf4 := blk_frozen AR8.out.box 4
 have vf5 := blk_frozen AR8.out.box 5
 have vf6 := blk_frozen AR8.out.box 6
 simp only [aV, z40, z38, List.getElem?_toArray, List.getElem?_cons_zero, List.getElem?_cons_succ] at v0 v1 v2 v3 v4 v5 v6
 refine skip_ (w1 := ?_) (by rfl) rfl ?_ ?_
 rotate_left
 ·
  go_simp
  rfl
 refine hK.out _ _ ?_
 clear hK K
 refine pure_ (i := 16) (N := some 69) (v := ?_) (a' := ?_) #[true, true, true, true, true, true, true, true, true, true, true, true, true, true, true, true, true, false, false, false] rfl rfl (by kernel_rfl) (fun _ _ _ h => h) (Or.inl ⟨by rfl, ?_⟩) ?_ ?_
 rotate_left
 ·
  intro w'
  go_simp
  with_reducible rfl
 rotate_left
 ·
  simp only [Act.put, List.setIfInBounds_toArray, List.set_cons_zero, List.set_cons_succ, i64_w, i32_w]
  rfl
 refine pure_ (i := 17) (N := some 70) (v := ?_) (a' := ?_) #[true, true, true, true, true, true, true, true, true, true, true, true, true, true, true, true, true, true, false, false] rfl rfl (by kernel_rfl) (fun _ _ _ h => h) (Or.inl ⟨by rfl, ?_⟩) ?_ ?_
 rotate_left
 ·
  intro w'
  go_simp
  with_reducible rfl
 rotate_left
 ·
  simp only [Act.put, List.setIfInBounds_toArray, List.set_cons_zero, List.set_cons_succ, i64_w, i32_w]
  rfl
 refine last_ (i := 18) (N := none) #[true, true, true, true, true, true, true, true, true, true, true, true, true, true, true, true, true, true, true, false] rfl rfl (by kernel_rfl) (by decide) (fun K hK => ?_)
 have y1 := AR8.out.rd.cell1
 have yf := blk_frozen AR8.out.rd.blk 1
 have ng : g ≠ p := AR8.out.ne
 have ng2 : p ≠ g := ng.symm
 refine skip_ (w1 := ?_) (by rfl) rfl ?_ ?_
 rotate_left
 ·
  go_simp
  rfl
 refine hK.out _ _ ?_
 clear hK K
 refine pure_ (i := 19) (N := some 3) (v := ?_) (a' := ?_) #[true, true, true, true, true, true, true, true, true, true, true, true, true, true, true, true, true, true, true, true] rfl rfl (by kernel_rfl) (fun _ _ _ h => h) (Or.inl ⟨by rfl, ?_⟩) ?_ ?_
 rotate_left
 ·
  intro w'
  go_simp
  with_reducible rfl
 rotate_left
 ·
  simp only [Act.put, List.setIfInBounds_toArray, List.set_cons_zero, List.set_cons_succ, i64_w, i32_w]
  rfl
 refine done_ (by kernel_rfl) ?_
 obtain ⟨w9, hw9, AR9⟩ : ∃ V, (((((w6.setCell ⟨p, 2, none⟩ (.string s1)).setCell ⟨p, 3, none⟩ (.string s2)).setCell ⟨p, 4, none⟩ (.int .i64 n)).setCell ⟨p, 5, none⟩ (.int .u8 m)).setCell ⟨g, 1, none⟩ (.int .i64 (nx : Int))) = V ∧ Aside0 (AR w0 W V g A c l nx p (⟨2, 0, ⟨s1, s2, n, m⟩, (⟨#[]⟩ : ByteArray)⟩ : S40)) := ⟨_, rfl, ⟨((((AR8.out.setx (y := ⟨2, 0, ⟨s1, (⟨#[]⟩ : ByteArray), 0, 0⟩, (⟨#[]⟩ : ByteArray)⟩) 2 (.string s1) rfl).setx (y := ⟨2, 0, ⟨s1, s2, 0, 0⟩, (⟨#[]⟩ : ByteArray)⟩) 3 (.string s2) rfl).setx (y := ⟨2, 0, ⟨s1, s2, n, 0⟩, (⟨#[]⟩ : ByteArray)⟩) 4 (.int .i64 n) rfl).setx (y := (⟨2, 0, ⟨s1, s2, n, m⟩, (⟨#[]⟩ : ByteArray)⟩ : S40)) 5 (.int .u8 m) rfl).seti nx⟩⟩
 rw [hw9]
 clear hw9 AR7 AR8 g0 g1
 go_wp2
 refine bodyPost_ret (results_ct rfl _ _ p 40 (aV (⟨2, 0, ⟨s1, s2, n, m⟩, (⟨#[]⟩ : ByteArray)⟩ : S40)) (0, 0) _ rfl (AR9.out.box) Tryz.underlying40 rfl (by kernel_rfl)) rfl ?_
 exact ⟨rfl, AR9.out.fr, _, AR9.out.rd⟩
abbrev XA := S40
abbrev XE := S38
def toE (x : Ex.X) : XE := ⟨⟨x.s.toArray⟩, ⟨x.l.toArray⟩, x.n, (x.m : Int)⟩
def memB (l : List S61) (a : Nat) (x : XE) : Sum (XA × Nat) Nat := match byAt l a with | some n => .inl (⟨3, (n : Int), x, ⟨#[]⟩⟩, a + 3) | none => .inr 170
def exprB (l : List S61) (r : Ex.X × Nat × Nat) : Sum (XA × Nat) Nat :=
 if r.2.2 ≠ 0 then .inr r.2.2 else if r.1.m = 0 ∧ (Li.regL r.1.s).isSome = true then .inr 160 else if markB l r.2.1 40 = true then memB l r.2.1 (toE r.1) else .inl (⟨2, 0, toE r.1, ⟨#[]⟩⟩, r.2.1)
def restB (l : List S61) (a : Nat) : Sum (XA × Nat) Nat := match regAt l a with
 | some n => .inl (⟨1, (n : Int), z38, ⟨#[]⟩⟩, a + 1)
 | none => if markB l a 40 = true then memB l a z38 else exprB l (Ex.parseL (l.map ZT.toTok) (a : Int))
def argB (l : List S61) (a : Nat) : Sum (XA × Nat) Nat := match l[a]? with
 | some t => if t.f0 = 3 then .inl (⟨4, 0, z38, t.f1⟩, a + 1) else restB l a
 | none => restB l a
def ArgPost (w0 W : World) (g : Nat) (A : Option Addr) (c : Nat) (l : List S61) (r : Sum (XA × Nat) Nat) (e : Ending) (W' : World) : Prop := match r with
 | .inl (x, a') => e = .returned (.tuple #[.agg (aV x), .int .i64 0]) ∧ FR W W' g ∧ RD w0 W' g A c l a'
 | .inr er => ∃ x, e = .returned (.tuple #[.agg (aV x), .int .i64 (er : Int)]) ∧ FR W W' g ∧ ∃ a', RD w0 W' g A c l a'
theorem parse_le (l : List Lex.Tok) (a : Nat) : (Ex.parseL l (a : Int)).2.1 ≤ l.length := by
  unfold Ex.parseL
  split
  · exact Nat.zero_le _
  split
  · exact Nat.zero_le _
  split
  · exact Nat.zero_le _
  · exact Nat.sub_le _ _
theorem parse_word (l : List Lex.Tok) (a : Nat) (h : (Ex.parseL l (a : Int)).2.2 = 0) : (Ex.parseL l (a : Int)).1.s.length ≤ 1000 := by
 obtain ⟨_, _, _, hc, _⟩ := Ex.parse_only (y := (Ex.parseL l (a : Int)).1) (n := (Ex.parseL l (a : Int)).2.1) (Prod.ext rfl (Prod.ext rfl h))
 obtain ⟨hs, _, _⟩ := Ex.check_parts hc
 rcases hs with h | h
 ·
  rw [h]; simp
 ·
  unfold Ex.wordL at h
  simp only [Bool.and_eq_true, Bool.or_eq_true] at h
  rcases h.1 with h | h
  ·
   cases hl : (Ex.parseL l (a : Int)).1.s with
   | nil => simp
   | cons c t =>
    rw [hl] at h
    simp only [Lex.nameL, Bool.and_eq_true, decide_eq_true_eq] at h
    simp only [List.length_cons]
    omega
  ·
   simp only [Lex.localL, Bool.and_eq_true, decide_eq_true_eq] at h
   omega
theorem sum_f (x : Ex.X) (h : x.s.length ≤ 1000) : line_sum.f ⟨x.s.toArray⟩ ⟨x.l.toArray⟩ x.n (x.m : Int) = some (!(decide (x.m = 0) && (Li.regL x.s).isSome)) := by
 have hr : line_Register.f ⟨x.s.toArray⟩ = some (LR.regV ⟨x.s.toArray⟩) := by
  unfold line_Register.f
  rw [if_pos]
  show x.s.toArray.size ≤ 1000000
  simp
  omega
 unfold line_sum.f
 rw [hr]
 simp only [Option.bind_some]
 have hv : (LR.regV ⟨x.s.toArray⟩).2 = if (Li.regL x.s).isSome then 0 else 6 := by
  unfold LR.regV
  simp only
  cases Li.regL x.s <;> rfl
 rw [hv]
 by_cases hm : x.m = 0
 ·
  rw [if_neg (by omega), decide_eq_true hm]
  cases Li.regL x.s <;> rfl
 ·
  rw [if_pos (by omega), decide_eq_false hm]
  rfl
theorem arg_walk (w0 W : World) (g : Nat) (A : Option Addr) (c : Nat) (l : List S61) (a : Nat) (hl : l.length ≤ 1000000) (ha : a ≤ l.length) (ok : okB l) (hT : Lib.TabIs Tryz.prog w0 "internal/strconv.uint64pow10" .u64 Lib.pow10Tab) (hD : LexW.LexD w0) (hM : ExW.ModsAt w0) (hG : LiW.RegsAt w0) (h : RD w0 W g A c l a) :
  Calls Tryz.prog 47 #[.pointer (some ⟨g, 0, none⟩)] W fun e W' => ArgPost w0 W g A c l (argB l a) e W' := by
 have hs : ∀ x ∈ l, x.f1.size ≤ 1000000 := fun x hx => (ok.2 x hx).2.1
 have hpf : expr_Parse.f l (a : Int) = some (⟨(Ex.parseL (l.map ZT.toTok) (a : Int)).1.s.toArray⟩, ⟨(Ex.parseL (l.map ZT.toTok) (a : Int)).1.l.toArray⟩, (Ex.parseL (l.map ZT.toTok) (a : Int)).1.n, ((Ex.parseL (l.map ZT.toTok) (a : Int)).1.m : Int), ((Ex.parseL (l.map ZT.toTok) (a : Int)).2.1 : Int), ((Ex.parseL (l.map ZT.toTok) (a : Int)).2.2 : Int)) := by
  unfold expr_Parse.f
  rw [if_pos ok]
 cases ht : l[a]? with
 | some t =>
  by_cases hk : t.f0 = 3
  ·
   have : argB l a = .inl (⟨4, 0, z38, t.f1⟩, a + 1) := by unfold argB; rw [ht]; exact if_pos hk
   rw [this]
   exact arg_text w0 W g A c l a hl ha hs hT hD hM hG h t ht hk
  ·
   have hr : argB l a = restB l a := by unfold argB; rw [ht]; exact if_neg hk
   rw [hr]
   unfold restB
   cases hq : regAt l a with
   | some n => exact arg_reg w0 W g A c l a hl ha hs hT hD hM hG h t ht hk n hq
   | none =>
    simp only
    cases hm : markB l a 40 with
    | true =>
     rw [if_pos rfl]
     unfold memB
     cases hb : byAt l a with
     | some n => exact arg_mem_some w0 W g A c l a hl ha hs hT hD hM hG h t ht hk hq hm n hb
     | none =>
      exact (arg_mem_none w0 W g A c l a hl ha hs hT hD hM hG h t ht hk hq hm hb).mono fun e W' ⟨h1, h2, h3⟩ => ⟨_, h1, h2, h3⟩
    | false =>
     rw [if_neg (by simp)]
     generalize hP : Ex.parseL (l.map ZT.toTok) (a : Int) = r at hpf
     unfold exprB
     refine arg_expr w0 W g A c l a hl ha hs hT hD hM hG h t ht hk hq hm _ _ _ _ _ _ hpf _ ?_
     have hle : r.2.2 = 0 → r.2.1 ≤ l.length := fun _ => by rw [← hP]; have := parse_le (l.map ZT.toTok) a; rw [List.length_map] at this; exact this
     by_cases he : r.2.2 = 0
     ·
      have hsf := sum_f r.1 (by rw [← hP]; exact parse_word _ _ (by rw [hP]; exact he))
      have he' : (r.2.2 : Int) = 0 := by omega
      rw [if_neg (by simpa using he)]
      by_cases hc : r.1.m = 0 ∧ (Li.regL r.1.s).isSome = true
      ·
       rw [if_pos hc]
       rw [decide_eq_true hc.1, hc.2] at hsf
       exact .inr (.inl ⟨he', hsf, fun W' h1 h2 => ⟨_, rfl, h1, h2⟩⟩)
      ·
       rw [if_neg hc]
       have hsf : line_sum.f ⟨r.1.s.toArray⟩ ⟨r.1.l.toArray⟩ r.1.n (r.1.m : Int) = some true := by
        rw [hsf]
        congr 1
        cases hd : decide (r.1.m = 0) with
        | false => rfl
        | true =>
         cases hi : (Li.regL r.1.s).isSome with
         | false => rfl
         | true => exact absurd ⟨of_decide_eq_true hd, hi⟩ hc
       cases hn : markB l r.2.1 40 with
       | true =>
        rw [if_pos rfl]
        unfold memB
        cases hb : byAt l r.2.1 with
        | some k => exact .inr (.inr (.inr (.inr ⟨he', hsf, hle he, rfl, k, rfl, fun W' h1 h2 => ⟨rfl, h1, h2⟩⟩)))
        | none => exact .inr (.inr (.inr (.inl ⟨he', hsf, hle he, rfl, rfl, fun W' h1 h2 => ⟨_, rfl, h1, h2⟩⟩)))
       | false =>
        rw [if_neg (by simp)]
        exact .inr (.inr (.inl ⟨he', hsf, hle he, rfl, fun W' h1 h2 => ⟨rfl, h1, h2⟩⟩))
     ·
      rw [if_pos he]
      exact .inl ⟨by omega, fun W' h1 h2 => ⟨_, rfl, h1, h2⟩⟩
 | none =>
  have hlt : ¬ a < l.length := fun hlt => by rw [List.getElem?_eq_getElem hlt] at ht; cases ht
  have hq : regAt l a = none := by unfold regAt; rw [ht]
  have hm : markB l a 40 = false := by unfold markB; rw [ht]
  have hr : argB l a = restB l a := by unfold argB; rw [ht]
  rw [hr]
  unfold restB
  rw [hq]
  simp only
  rw [if_neg (by rw [hm]; simp)]
  have hne : (Ex.parseL (l.map ZT.toTok) (a : Int)).2.2 ≠ 0 := by
   intro e
   obtain ⟨_, h1, h2, _⟩ := Ex.parse_only (y := (Ex.parseL (l.map ZT.toTok) (a : Int)).1) (n := (Ex.parseL (l.map ZT.toTok) (a : Int)).2.1) (Prod.ext rfl (Prod.ext rfl e))
   rw [Int.toNat_natCast] at h1
   rw [List.length_map] at h2
   omega
  generalize Ex.parseL (l.map ZT.toTok) (a : Int) = r at hpf hne
  unfold exprB
  rw [if_pos hne]
  exact (arg_out w0 W g A c l a hl ha hs hT hD hM hG h hlt hq hm _ _ _ _ _ _ hpf (by omega)).mono fun e W' ⟨h1, h2, h3⟩ => ⟨_, h1, h2, h3⟩
theorem arg_ok (w0 W : World) (g : Nat) (A : Option Addr) (c : Nat) (l : List S61) (a : Nat) (hl : l.length ≤ 1000000) (ha : a ≤ l.length) (ok : okB l) (hT : Lib.TabIs Tryz.prog w0 "internal/strconv.uint64pow10" .u64 Lib.pow10Tab) (hD : LexW.LexD w0) (hM : ExW.ModsAt w0) (hG : LiW.RegsAt w0) (h : RD w0 W g A c l a) (x : XA) (a' : Nat) (hq : argB l a = .inl (x, a')) :
  Calls Tryz.prog 47 #[.pointer (some ⟨g, 0, none⟩)] W fun e W' => e = .returned (.tuple #[.agg #[.int .u8 x.f0, .int .i64 x.f1, .string x.f2.f0, .string x.f2.f1, .int .i64 x.f2.f2, .int .u8 x.f2.f3, .string x.f3], .int .i64 0]) ∧ FR W W' g ∧ RD w0 W' g A c l a' := by
 have := arg_walk w0 W g A c l a hl ha ok hT hD hM hG h
 rw [hq] at this
 exact this
theorem arg_no (w0 W : World) (g : Nat) (A : Option Addr) (c : Nat) (l : List S61) (a : Nat) (hl : l.length ≤ 1000000) (ha : a ≤ l.length) (ok : okB l) (hT : Lib.TabIs Tryz.prog w0 "internal/strconv.uint64pow10" .u64 Lib.pow10Tab) (hD : LexW.LexD w0) (hM : ExW.ModsAt w0) (hG : LiW.RegsAt w0) (h : RD w0 W g A c l a) (er : Nat) (hq : argB l a = .inr er) :
  Calls Tryz.prog 47 #[.pointer (some ⟨g, 0, none⟩)] W fun e W' => ∃ x : XA, e = .returned (.tuple #[.agg #[.int .u8 x.f0, .int .i64 x.f1, .string x.f2.f0, .string x.f2.f1, .int .i64 x.f2.f2, .int .u8 x.f2.f3, .string x.f3], .int .i64 (er : Int)]) ∧ FR W W' g ∧ ∃ a', RD w0 W' g A c l a' := by
 have := arg_walk w0 W g A c l a hl ha ok hT hD hM hG h
 rw [hq] at this
 exact this
theorem mark_lt {l : List S61} {i : Nat} {c : UInt8} (h : markB l i c = true) : i < l.length := by
 rcases Nat.lt_or_ge i l.length with g | g
 ·
  exact g
 ·
  unfold markB at h
  rw [List.getElem?_eq_none g] at h
  cases h
theorem by_lt {l : List S61} {a n : Nat} (h : byAt l a = some n) : a + 3 ≤ l.length := by
 unfold byAt at h
 cases hr : regAt l (a + 1) with
 | none => rw [hr] at h; cases h
 | some k =>
  rw [hr] at h
  simp only at h
  cases hm : markB l (a + 2) 41 with
  | true => have := mark_lt hm; omega
  | false => rw [hm] at h; simp at h
theorem mem_lt {l : List S61} {a a' : Nat} {x : XE} {y : XA} (h : memB l a x = .inl (y, a')) : a < a' ∧ a' ≤ l.length := by
 unfold memB at h
 cases hb : byAt l a with
 | none => rw [hb] at h; cases h
 | some n =>
  rw [hb] at h
  cases h
  have := by_lt hb
  omega
theorem arg_lt {l : List S61} {a a' : Nat} {y : XA} (h : argB l a = .inl (y, a')) : a < a' ∧ a' ≤ l.length := by
 have rest : restB l a = .inl (y, a') → a < a' ∧ a' ≤ l.length := by
  intro h
  unfold restB at h
  cases hq : regAt l a with
  | some n =>
   rw [hq] at h
   cases h
   have : a < l.length := by
    rcases Nat.lt_or_ge a l.length with g | g
    ·
     exact g
    ·
     unfold regAt at hq
     rw [List.getElem?_eq_none g] at hq
     cases hq
   omega
  | none =>
   rw [hq] at h
   simp only at h
   by_cases hm : markB l a 40 = true
   ·
    rw [if_pos hm] at h
    exact mem_lt h
   ·
    rw [if_neg hm] at h
    unfold exprB at h
    by_cases he : (Ex.parseL (l.map ZT.toTok) (a : Int)).2.2 = 0
    ·
     obtain ⟨_, h1, h2, _⟩ := Ex.parse_only (y := (Ex.parseL (l.map ZT.toTok) (a : Int)).1) (n := (Ex.parseL (l.map ZT.toTok) (a : Int)).2.1) (Prod.ext rfl (Prod.ext rfl he))
     rw [Int.toNat_natCast] at h1
     rw [List.length_map] at h2
     rw [if_neg (by simpa using he)] at h
     split at h
     ·
      cases h
     split at h
     ·
      have := mem_lt h
      omega
     ·
      cases h
      exact ⟨h1, h2⟩
    ·
     rw [if_pos he] at h
     cases h
 unfold argB at h
 cases ht : l[a]? with
 | none => rw [ht] at h; exact rest h
 | some t =>
  rw [ht] at h
  simp only at h
  by_cases hk : t.f0 = 3
  ·
   rw [if_pos hk] at h
   cases h
   have := (List.getElem?_eq_some_iff.1 ht).1
   omega
  ·
   rw [if_neg hk] at h
   exact rest h
theorem arg_er {l : List S61} {a er : Nat} (h : argB l a = .inr er) : er ≠ 0 := by
 have mem : ∀ {b x}, memB l b x = .inr er → er ≠ 0 := by
  intro b x h
  unfold memB at h
  cases hb : byAt l b with
  | none => rw [hb] at h; cases h; omega
  | some n => rw [hb] at h; cases h
 have rest : restB l a = .inr er → er ≠ 0 := by
  intro h
  unfold restB at h
  cases hq : regAt l a with
  | some n => rw [hq] at h; cases h
  | none =>
   rw [hq] at h
   simp only at h
   by_cases hm : markB l a 40 = true
   ·
    rw [if_pos hm] at h
    exact mem h
   ·
    rw [if_neg hm] at h
    unfold exprB at h
    split at h
    ·
     rename_i he
     cases h
     exact he
    split at h
    ·
     cases h; omega
    split at h
    ·
     exact mem h
    ·
     cases h
 unfold argB at h
 cases ht : l[a]? with
 | none => rw [ht] at h; exact rest h
 | some t =>
  rw [ht] at h
  simp only at h
  split at h
  ·
   cases h
  ·
   exact rest h
def argsB (l : List S61) : Nat → Nat → List XA → Sum (List XA) Nat
 | 0, _, out => .inl out
 | d + 1, a, out =>
  if l.length ≤ a then .inl out
  else if out ≠ [] ∧ markB l a 44 = false then .inr 170
  else match argB l (if out = [] then a else a + 1) with
   | .inr er => .inr er
   | .inl (x, a') => if out.length = 8 then .inr 4 else argsB l d a' (out ++ [x])
end LD
end

end Go.Proofs.YtbfndlfemhidaaaGreatDoor.P
