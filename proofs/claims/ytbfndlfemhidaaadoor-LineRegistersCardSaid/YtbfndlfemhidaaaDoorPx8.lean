/- Texts of this seat in one (Px8), what nothing speaks of left out: by pack.py, a program of this session. -/
import Derived.Test.YtbfndlfemhidaaaDoorPx0
import Derived.Test.YtbfndlfemhidaaaDoorPx2
import Derived.Test.YtbfndlfemhidaaaDoorPx3
import Derived.Test.YtbfndlfemhidaaaDoorPx6
import Derived.Test.YtbfndlfemhidaaaDoorPx7
namespace Go.Proofs.YtbfndlfemhidaaaDoor.P
open Go.RowKit Go.Proofs.YtbfndlfemhidaaaDoorW.PrintWords Go.Proofs.YtbfndlfemhidaaaDoorW.PrintLast Go.Proofs.YtbfndlfemhidaaaDoorW.PrintMore
attribute [local go_sem] max2_int min2_int max_two min_two max_three min_three max_four min_four   -- for this text's walks alone
set_option linter.unusedVariables false
set_option linter.unusedSimpArgs false


section
open Go.Proofs.YtbfndlfemhidaaaDoor.Lex
attribute [local go_sem high] eqA53
namespace LD
def aV (x : S32) : Array Value := #[.int .u8 x.f0, .int .i64 x.f1, .string x.f2.f0, .string x.f2.f1, .int .i64 x.f2.f2, .int .u8 x.f2.f3, .string x.f3]
structure AR (w0 B W : World) (g : Nat) (A : Option Addr) (c : Nat) (l : List S53) (a p : Nat) (x : S32) : Prop where
  fr : FR B W g
  np : B.heap.size ≤ p
  rd : RD w0 W g A c l a
  box : W.heap[p]? = some (.cells (aV x) 32 (0, 0))
  gp : w0.heap.size ≤ p
  ne : g ≠ p
theorem AR.drew {w0 B W : World} {g c a p : Nat} {A : Option Addr} {l : List S53} {x : S32} (h : AR w0 B W g A c l a p x) : AR w0 B W.drew g A c l a p x := ⟨h.fr.trans (FR.same rfl), h.np, h.rd.drew, blk_drew h.box, h.gp, h.ne⟩
theorem AR.drewN {w0 B W : World} {g c a p : Nat} {A : Option Addr} {l : List S53} {x : S32} (h : AR w0 B W g A c l a p x) (n : Nat) : AR w0 B (W.drewN n) g A c l a p x := ⟨h.fr.trans (FR.same rfl), h.np, h.rd.drewN n, blk_drewN h.box n, h.gp, h.ne⟩
theorem AR.below {w0 B W W1 : World} {g c a p : Nat} {A : Option Addr} {l : List S53} {x : S32} (h : AR w0 B W g A c l a p x) (hb : Below W.heap.size W W1) : AR w0 B W1 g A c l a p x := ⟨h.fr.trans (FR.of_below hb), h.np, h.rd.below hb, blk_below h.box hb, h.gp, h.ne⟩
theorem AR.step {w0 B W W1 : World} {g c a a' p : Nat} {A : Option Addr} {l : List S53} {x : S32} (h : AR w0 B W g A c l a p x) (hf : FR W W1 g) (hr : RD w0 W1 g A c l a') : AR w0 B W1 g A c l a' p x := ⟨h.fr.trans hf, h.np, hr, hf.blk h.box h.ne.symm, h.gp, h.ne⟩
theorem AR.seti {w0 B W : World} {g c a p : Nat} {A : Option Addr} {l : List S53} {x : S32} (h : AR w0 B W g A c l a p x) (a' : Nat) : AR w0 B (W.setCell ⟨g, 1, none⟩ (.int .i64 (a' : Int))) g A c l a' p x := ⟨h.fr.set _ _, h.np, h.rd.seti a', blk_far h.box h.ne.symm _, h.gp, h.ne⟩
theorem AR.setx {w0 B W : World} {g c a p : Nat} {A : Option Addr} {l : List S53} {x y : S32} (h : AR w0 B W g A c l a p x) (j : Nat) (v : Value) (e : (aV x).setIfInBounds j v = aV y) : AR w0 B (W.setCell ⟨p, j, none⟩ v) g A c l a p y :=
  ⟨⟨Nat.le_trans h.fr.size (Nat.le_of_eq (by simp)), fun k hk hn => (Below.heap_setCell W ⟨p, j, none⟩ v k (by have := h.np; show k ≠ p; omega)).trans (h.fr.keep k hk hn)⟩, h.np, ⟨blk_far h.rd.blk h.ne _, h.rd.ge, below_set h.rd.bel h.gp, h.rd.row, h.rd.cap⟩, blk_put h.box j v e, h.gp, h.ne⟩
theorem AR.put {w0 B W : World} {g c a p : Nat} {A : Option Addr} {l : List S53} {x : S32} (h : AR w0 B W g A c l a p x) (y : S32) :
    AR w0 B (((((((W.setCell ⟨p, 0, none⟩ (.int .u8 y.f0)).setCell ⟨p, 1, none⟩ (.int .i64 y.f1)).setCell ⟨p, 2, none⟩ (.string y.f2.f0)).setCell ⟨p, 3, none⟩ (.string y.f2.f1)).setCell ⟨p, 4, none⟩ (.int .i64 y.f2.f2)).setCell ⟨p, 5, none⟩ (.int .u8 y.f2.f3)).setCell ⟨p, 6, none⟩ (.string y.f3)) g A c l a p y :=
  ((((((h.setx (y := ⟨y.f0, x.f1, x.f2, x.f3⟩) 0 _ rfl).setx (y := ⟨y.f0, y.f1, x.f2, x.f3⟩) 1 _ rfl).setx (y := ⟨y.f0, y.f1, ⟨y.f2.f0, x.f2.f1, x.f2.f2, x.f2.f3⟩, x.f3⟩) 2 _ rfl).setx (y := ⟨y.f0, y.f1, ⟨y.f2.f0, y.f2.f1, x.f2.f2, x.f2.f3⟩, x.f3⟩) 3 _ rfl).setx (y := ⟨y.f0, y.f1, ⟨y.f2.f0, y.f2.f1, y.f2.f2, x.f2.f3⟩, x.f3⟩) 4 _ rfl).setx (y := ⟨y.f0, y.f1, ⟨y.f2.f0, y.f2.f1, y.f2.f2, y.f2.f3⟩, x.f3⟩) 5 _ rfl).setx (y := y) 6 _ rfl
theorem RD.tok2 {w0 W : World} {g c a : Nat} {A : Option Addr} {l : List S53} (h : RD w0 W g A c l a) (i : Nat) (t : S53) (hi : l[i]? = some t) :
    ∃ ad, A = some ad ∧ W.cell? (ad.add (i * 3)) = some (.int .u8 t.f0) ∧ W.cell? ⟨(ad.add (i * 3)).block, (ad.add (i * 3)).off + 1, none⟩ = some (.string t.f1) ∧ W.cell? ⟨(ad.add (i * 3)).block, (ad.add (i * 3)).off + 2, none⟩ = some (.int .i64 t.f2) := by
  obtain ⟨hlt, rfl⟩ := List.getElem?_eq_some_iff.1 hi
  exact h.tok i hlt
set_option maxHeartbeats 8000000 in
set_option maxRecDepth 100000 in
theorem arg_text (w0 W : World) (g : Nat) (A : Option Addr) (c : Nat) (l : List S53) (a : Nat) (hl : l.length ≤ 1000000) (ha : a ≤ l.length) (hs : ∀ x ∈ l, x.f1.size ≤ 1000000) (hT : Lib.TabIs Tryd.prog w0 "internal/strconv.uint64pow10" .u64 Lib.pow10Tab) (hD : LexW.LexD w0) (hM : ExW.ModsAt w0) (hG : LiW.RegsAt w0) (h : RD w0 W g A c l a) (t : S53) (ht : l[a]? = some t) (hk : t.f0 = 3) :
    Calls Tryd.prog 22 #[.pointer (some ⟨g, 0, none⟩)] W fun e W' => e = .returned (.tuple #[.agg (aV ⟨4, 0, z30, t.f1⟩), .int .i64 0]) ∧ FR W W' g ∧ RD w0 W' g A c l (a + 1) := by
  have HR := Aside0.mk h
  have HT := Aside0.mk hT
  have HD := Aside0.mk hD
  have HM := Aside0.mk hM
  have HG := Aside0.mk hG
  have HL := Aside0.mk hl
  have HS := Aside0.mk hs
  have hlt : a < l.length := (List.getElem?_eq_some_iff.1 ht).1
  have HTT := Aside0.mk ht
  have HE := Aside0.mk (show decide (l.length ≤ a) = false from decide_eq_false (by omega))
  have p0 := eq_true (show (0 : Int) ≤ (a : Int) by omega)
  have q0 := eq_true (show (a : Int) < (l.length : Int) by omega)
  obtain ⟨a1, e1⟩ : ∃ x, x = a + 1 := ⟨_, rfl⟩
  have hb1 : wrap64 ((a : Int) + 1) = (a1 : Int) := by unfold wrap64; omega
  have E1 := Aside0.mk e1
  have k0 : (t.f0 == 3) = true := beq_iff_eq.2 hk
  clear h hl ha hs hT hD hM hG hlt hk e1 ht
  go_enter Tryd.func22, Tryd.ntmps22
  go_wp2_with (first | ((with_reducible refine gate_dst (N := 2) rfl ?_); refine box_event ?hg (N := 2) ?hd (cs := #[.int .u8 0, .int .i64 0, .string (⟨#[]⟩ : ByteArray), .string (⟨#[]⟩ : ByteArray), .int .i64 0, .int .u8 0, .string (⟨#[]⟩ : ByteArray)]) (t := 32) ?hr ?_; (case hd => rfl); (case hg => rfl); (case hr => first | (go_simp; done) | (go_simp; rfl)); intro p hg w1 hbox hb; have AR1 : Aside0 (AR w0 W w1 g A c l a p z32) := ⟨⟨FR.of_below hb, by rw [hg]; exact Nat.le_refl _, HR.out.below hb, hbox, by rw [hg]; exact HR.out.bel.size, by rw [hg]; exact Nat.ne_of_lt (blk_lt HR.out.blk)⟩⟩; clear hb hbox hg))
  have c0 := AR1.out.rd.cell0
  have c1 := AR1.out.rd.cell1
  obtain ⟨ad, rfl, x0, x1, x2⟩ := AR1.out.rd.tok2 a t HTT.out
  refine start_ (n := 17) (S := fun w' => w'.cell? ⟨g, 0, none⟩ = some (.slice (some ad) l.length c) ∧ w'.cell? ⟨g, 1, none⟩ = some (.int .i64 (a : Int)) ∧ w'.cell? (ad.add (a * 3)) = some (.int .u8 t.f0) ∧ w'.cell? ⟨(ad.add (a * 3)).block, (ad.add (a * 3)).off + 1, none⟩ = some (.string t.f1) ∧ w'.cell? ⟨(ad.add (a * 3)).block, (ad.add (a * 3)).off + 2, none⟩ = some (.int .i64 t.f2)) (ds := []) #[false, false, false, false, false, false, false, false, false, false, false, false, false, false, false, false, false] (by kernel_rfl) rfl rfl ⟨c0, c1, x0, x1, x2⟩ (fun hHeld => ?_)
  refine pure_ (i := 0) (N := some 6) (v := ?_) (a' := ?_) #[true, false, false, false, false, false, false, false, false, false, false, false, false, false, false, false, false] rfl rfl (by kernel_rfl) (fun _ _ _ h => h) (Or.inl ⟨by rfl, ?_⟩) ?_ ?_
  rotate_left
  · intro w'
    go_simp
    with_reducible rfl
  rotate_left
  · simp only [Act.put, List.setIfInBounds_toArray, List.set_cons_zero, List.set_cons_succ, i64_w, i32_w]
    rfl
  refine one_ (i := 1) (N := some 7) #[true, true, false, false, false, false, false, false, false, false, false, false, false, false, false, false, false] rfl rfl (by kernel_rfl) (by decide) (fun K hK => ?_)
  refine goes_ Tryd.func15 (by kernel_rfl) rfl #[.pointer (some ⟨g, 0, none⟩)] (by rfl) rfl rfl (by simp only [List.map_toArray, List.map_cons, List.map_nil]; rfl) ?_
  with_reducible refine (end_walk w0 _ g (some ad) c l a AR1.out.rd.drew false HE.out).mono ?_
  rintro e w5 ⟨rfl, ⟨nd, rfl⟩⟩
  refine ⟨_, rfl, ?_⟩
  have AR2 := Aside0.mk (AR1.out.drew.drewN nd)
  refine hK.out _ _ ⟨hHeld.1, hHeld.2.1, hHeld.2.2.1, hHeld.2.2.2.1, hHeld.2.2.2.2⟩ (fun hHeld => ?_)
  clear hK K
  refine norm_ (a' := ?_) ?_ ?_
  rotate_left
  · show Act.put _ (some 7) _ = _
    simp only [Act.put, List.setIfInBounds_toArray, List.set_cons_zero, List.set_cons_succ, i64_w, i32_w]
    rfl
  refine pure_ (i := 2) (N := some 8) (v := ?_) (a' := ?_) #[true, true, true, false, false, false, false, false, false, false, false, false, false, false, false, false, false] rfl rfl (by kernel_rfl) (fun _ _ _ h => h) (Or.inl ⟨by rfl, ?_⟩) ?_ ?_
  rotate_left
  · intro w'
    go_simp
    with_reducible rfl
  rotate_left
  · simp only [Act.put, List.setIfInBounds_toArray, List.set_cons_zero, List.set_cons_succ, i64_w, i32_w]
    rfl
  refine pure_ (i := 3) (N := some 9) (v := ?_) (a' := ?_) #[true, true, true, true, false, false, false, false, false, false, false, false, false, false, false, false, false] rfl rfl (by kernel_rfl) (fun _ _ _ h => h) (Or.inl ⟨by rfl, ?_⟩) ?_ ?_
  rotate_left
  · intro w'
    go_simp
    with_reducible rfl
  rotate_left
  · simp only [Act.put, List.setIfInBounds_toArray, List.set_cons_zero, List.set_cons_succ, i64_w, i32_w]
    rfl
  refine pure_ (i := 4) (N := some 10) (v := ?_) (a' := ?_) #[true, true, true, true, true, false, false, false, false, false, false, false, false, false, false, false, false] rfl rfl (by kernel_rfl) (fun _ _ _ h => h) (Or.inl ⟨by rfl, ?_⟩) ?_ ?_
  rotate_left
  · intro w'
    go_simp
    with_reducible rfl
  rotate_left
  · simp only [Act.put, List.setIfInBounds_toArray, List.set_cons_zero, List.set_cons_succ, i64_w, i32_w]
    rfl
  refine pure_ (i := 5) (N := some 11) (v := ?_) (a' := ?_) #[true, true, true, true, true, true, false, false, false, false, false, false, false, false, false, false, false] rfl rfl (by kernel_rfl) (fun _ _ _ h => h) (Or.inl ⟨by rfl, ?_⟩) ?_ ?_
  rotate_left
  · intro w'
    go_simp
    with_reducible rfl
  rotate_left
  · simp only [Act.put, List.setIfInBounds_toArray, List.set_cons_zero, List.set_cons_succ, i64_w, i32_w]
    rfl
  refine pure_ (i := 6) (N := some 12) (v := ?_) (a' := ?_) #[true, true, true, true, true, true, true, false, false, false, false, false, false, false, false, false, false] rfl rfl (by kernel_rfl) (fun _ _ _ h => h) (Or.inl ⟨by rfl, ?_⟩) ?_ ?_
  rotate_left
  · intro w'
    go_simp
    with_reducible rfl
  rotate_left
  · simp only [Act.put, List.setIfInBounds_toArray, List.set_cons_zero, List.set_cons_succ, i64_w, i32_w]
    rfl
  refine pure_ (i := 8) (N := some 14) (v := ?_) (a' := ?_) #[true, true, true, true, true, true, true, false, true, false, false, false, false, false, false, false, false] rfl rfl (by kernel_rfl) (fun _ _ _ h => h) (Or.inl ⟨by rfl, ?_⟩) ?_ ?_
  rotate_left
  · intro w'
    go_simp
    with_reducible rfl
  rotate_left
  · simp only [Act.put, List.setIfInBounds_toArray, List.set_cons_zero, List.set_cons_succ, i64_w, i32_w]
    rfl
  refine pure_ (i := 9) (N := some 15) (v := ?_) (a' := ?_) #[true, true, true, true, true, true, true, false, true, true, false, false, false, false, false, false, false] rfl rfl (by kernel_rfl) (fun _ _ _ h => h) (Or.inl ⟨by rfl, ?_⟩) ?_ ?_
  rotate_left
  · intro w'
    go_simp
    with_reducible rfl
  rotate_left
  · simp only [Act.put, List.setIfInBounds_toArray, List.set_cons_zero, List.set_cons_succ, i64_w, i32_w]
    rfl
  refine pure_ (i := 10) (N := some 16) (v := ?_) (a' := ?_) #[true, true, true, true, true, true, true, false, true, true, true, false, false, false, false, false, false] rfl rfl (by kernel_rfl) (fun _ _ _ h => h) (Or.inl ⟨by rfl, ?_⟩) ?_ ?_
  rotate_left
  · intro w'
    go_simp
    with_reducible rfl
  rotate_left
  · simp only [Act.put, List.setIfInBounds_toArray, List.set_cons_zero, List.set_cons_succ, i64_w, i32_w]
    rfl
  refine take_ (i := 7) (N := some 13) (v := ?_) (a' := ?_) #[true, true, true, true, true, true, true, true, true, true, true, false, false, false, false, false, false] rfl rfl (by kernel_rfl) (fun _ _ _ h => h) (Or.inl ⟨by rfl, ?_⟩) hHeld ?_ ?_
  rotate_left
  · rintro w' ⟨s0, s1, s2, s3, s4⟩
    go_simp
    with_reducible rfl
  rotate_left
  · simp only [Act.put, List.setIfInBounds_toArray, List.set_cons_zero, List.set_cons_succ, i64_w, i32_w]
    rfl
  refine take_ (i := 11) (N := some 17) (v := ?_) (a' := ?_) #[true, true, true, true, true, true, true, true, true, true, true, true, false, false, false, false, false] rfl rfl (by kernel_rfl) (fun _ _ _ h => h) (Or.inl ⟨by rfl, ?_⟩) hHeld ?_ ?_
  rotate_left
  · rintro w' ⟨s0, s1, s2, s3, s4⟩
    go_simp
    with_reducible rfl
  rotate_left
  · simp only [Act.put, List.setIfInBounds_toArray, List.set_cons_zero, List.set_cons_succ, i64_w, i32_w]
    rfl
  refine pure_ (i := 12) (N := some 18) (v := ?_) (a' := ?_) #[true, true, true, true, true, true, true, true, true, true, true, true, true, false, false, false, false] rfl rfl (by kernel_rfl) (fun _ _ _ h => h) (Or.inl ⟨by rfl, ?_⟩) ?_ ?_
  rotate_left
  · intro w'
    go_simp
    with_reducible rfl
  rotate_left
  · simp only [Act.put, List.setIfInBounds_toArray, List.set_cons_zero, List.set_cons_succ, i64_w, i32_w]
    rfl
  refine pure_ (i := 13) (N := some 19) (v := ?_) (a' := ?_) #[true, true, true, true, true, true, true, true, true, true, true, true, true, true, false, false, false] rfl rfl (by kernel_rfl) (fun _ _ _ h => h) (Or.inl ⟨by rfl, ?_⟩) ?_ ?_
  rotate_left
  · intro w'
    go_simp
    with_reducible rfl
  rotate_left
  · simp only [Act.put, List.setIfInBounds_toArray, List.set_cons_zero, List.set_cons_succ, i64_w, i32_w]
    rfl
  refine take_ (i := 14) (N := some 20) (v := ?_) (a' := ?_) #[true, true, true, true, true, true, true, true, true, true, true, true, true, true, true, false, false] rfl rfl (by kernel_rfl) (fun _ _ _ h => h) (Or.inl ⟨by rfl, ?_⟩) hHeld ?_ ?_
  rotate_left
  · rintro w' ⟨s0, s1, s2, s3, s4⟩
    go_simp
    with_reducible rfl
  rotate_left
  · simp only [Act.put, List.setIfInBounds_toArray, List.set_cons_zero, List.set_cons_succ, i64_w, i32_w]
    rfl
  refine pure_ (i := 15) (N := some 21) (v := ?_) (a' := ?_) #[true, true, true, true, true, true, true, true, true, true, true, true, true, true, true, true, false] rfl rfl (by kernel_rfl) (fun _ _ _ h => h) (Or.inl ⟨by rfl, ?_⟩) ?_ ?_
  rotate_left
  · intro w'
    go_simp
    with_reducible rfl
  rotate_left
  · simp only [Act.put, List.setIfInBounds_toArray, List.set_cons_zero, List.set_cons_succ, i64_w, i32_w]
    rfl
  refine pure_ (i := 16) (N := some 22) (v := ?_) (a' := ?_) #[true, true, true, true, true, true, true, true, true, true, true, true, true, true, true, true, true] rfl rfl (by kernel_rfl) (fun _ _ _ h => h) (Or.inl ⟨by rfl, ?_⟩) ?_ ?_
  rotate_left
  · intro w'
    go_simp
    with_reducible rfl
  rotate_left
  · simp only [Act.put, List.setIfInBounds_toArray, List.set_cons_zero, List.set_cons_succ, i64_w, i32_w]
    rfl
  refine done_ (by kernel_rfl) ?_
  go_wp2
  refine start_ (n := 13) (S := fun w' => w'.cell? ⟨g, 0, none⟩ = some (.slice (some ad) l.length c) ∧ w'.cell? ⟨g, 1, none⟩ = some (.int .i64 (a : Int)) ∧ w'.cell? (ad.add (a * 3)) = some (.int .u8 t.f0) ∧ w'.cell? ⟨(ad.add (a * 3)).block, (ad.add (a * 3)).off + 1, none⟩ = some (.string t.f1) ∧ w'.cell? ⟨(ad.add (a * 3)).block, (ad.add (a * 3)).off + 2, none⟩ = some (.int .i64 t.f2)) (ds := [12]) #[false, false, false, false, false, false, false, false, false, false, false, false, false] (by kernel_rfl) rfl rfl ⟨c0, c1, x0, x1, x2⟩ (fun hHeld => ?_)
  refine pure_ (i := 0) (N := some 23) (v := ?_) (a' := ?_) #[true, false, false, false, false, false, false, false, false, false, false, false, false] rfl rfl (by kernel_rfl) (fun _ _ _ h => h) (Or.inl ⟨by rfl, ?_⟩) ?_ ?_
  rotate_left
  · intro w'
    go_simp
    with_reducible rfl
  rotate_left
  · simp only [Act.put, List.setIfInBounds_toArray, List.set_cons_zero, List.set_cons_succ, i64_w, i32_w]
    rfl
  refine pure_ (i := 1) (N := some 24) (v := ?_) (a' := ?_) #[true, true, false, false, false, false, false, false, false, false, false, false, false] rfl rfl (by kernel_rfl) (fun _ _ _ h => h) (Or.inl ⟨by rfl, ?_⟩) ?_ ?_
  rotate_left
  · intro w'
    go_simp
    with_reducible rfl
  rotate_left
  · simp only [Act.put, List.setIfInBounds_toArray, List.set_cons_zero, List.set_cons_succ, i64_w, i32_w]
    rfl
  refine pure_ (i := 2) (N := some 25) (v := ?_) (a' := ?_) #[true, true, true, false, false, false, false, false, false, false, false, false, false] rfl rfl (by kernel_rfl) (fun _ _ _ h => h) (Or.inl ⟨by rfl, ?_⟩) ?_ ?_
  rotate_left
  · intro w'
    go_simp
    with_reducible rfl
  rotate_left
  · simp only [Act.put, List.setIfInBounds_toArray, List.set_cons_zero, List.set_cons_succ, i64_w, i32_w]
    rfl
  refine pure_ (i := 4) (N := some 27) (v := ?_) (a' := ?_) #[true, true, true, false, true, false, false, false, false, false, false, false, false] rfl rfl (by kernel_rfl) (fun _ _ _ h => h) (Or.inl ⟨by rfl, ?_⟩) ?_ ?_
  rotate_left
  · intro w'
    go_simp
    with_reducible rfl
  rotate_left
  · simp only [Act.put, List.setIfInBounds_toArray, List.set_cons_zero, List.set_cons_succ, i64_w, i32_w]
    rfl
  refine pure_ (i := 5) (N := some 28) (v := ?_) (a' := ?_) #[true, true, true, false, true, true, false, false, false, false, false, false, false] rfl rfl (by kernel_rfl) (fun _ _ _ h => h) (Or.inl ⟨by rfl, ?_⟩) ?_ ?_
  rotate_left
  · intro w'
    go_simp
    with_reducible rfl
  rotate_left
  · simp only [Act.put, List.setIfInBounds_toArray, List.set_cons_zero, List.set_cons_succ, i64_w, i32_w]
    rfl
  refine pure_ (i := 6) (N := some 29) (v := ?_) (a' := ?_) #[true, true, true, false, true, true, true, false, false, false, false, false, false] rfl rfl (by kernel_rfl) (fun _ _ _ h => h) (Or.inl ⟨by rfl, ?_⟩) ?_ ?_
  rotate_left
  · intro w'
    go_simp
    with_reducible rfl
  rotate_left
  · simp only [Act.put, List.setIfInBounds_toArray, List.set_cons_zero, List.set_cons_succ, i64_w, i32_w]
    rfl
  refine take_ (i := 3) (N := some 26) (v := ?_) (a' := ?_) #[true, true, true, true, true, true, true, false, false, false, false, false, false] rfl rfl (by kernel_rfl) (fun _ _ _ h => h) (Or.inl ⟨by rfl, ?_⟩) hHeld ?_ ?_
  rotate_left
  · rintro w' ⟨s0, s1, s2, s3, s4⟩
    go_simp
    with_reducible rfl
  rotate_left
  · simp only [Act.put, List.setIfInBounds_toArray, List.set_cons_zero, List.set_cons_succ, i64_w, i32_w]
    rfl
  refine take_ (i := 7) (N := some 30) (v := ?_) (a' := ?_) #[true, true, true, true, true, true, true, true, false, false, false, false, false] rfl rfl (by kernel_rfl) (fun _ _ _ h => h) (Or.inl ⟨by rfl, ?_⟩) hHeld ?_ ?_
  rotate_left
  · rintro w' ⟨s0, s1, s2, s3, s4⟩
    go_simp
    with_reducible rfl
  rotate_left
  · simp only [Act.put, List.setIfInBounds_toArray, List.set_cons_zero, List.set_cons_succ, i64_w, i32_w]
    rfl
  refine pure_ (i := 8) (N := some 31) (v := ?_) (a' := ?_) #[true, true, true, true, true, true, true, true, true, false, false, false, false] rfl rfl (by kernel_rfl) (fun _ _ _ h => h) (Or.inl ⟨by rfl, ?_⟩) ?_ ?_
  rotate_left
  · intro w'
    go_simp
    with_reducible rfl
  rotate_left
  · simp only [Act.put, List.setIfInBounds_toArray, List.set_cons_zero, List.set_cons_succ, i64_w, i32_w]
    rfl
  refine pure_ (i := 9) (N := some 32) (v := ?_) (a' := ?_) #[true, true, true, true, true, true, true, true, true, true, false, false, false] rfl rfl (by kernel_rfl) (fun _ _ _ h => h) (Or.inl ⟨by rfl, ?_⟩) ?_ ?_
  rotate_left
  · intro w'
    go_simp
    with_reducible rfl
  rotate_left
  · simp only [Act.put, List.setIfInBounds_toArray, List.set_cons_zero, List.set_cons_succ, i64_w, i32_w]
    rfl
  refine take_ (i := 10) (N := some 33) (v := ?_) (a' := ?_) #[true, true, true, true, true, true, true, true, true, true, true, false, false] rfl rfl (by kernel_rfl) (fun _ _ _ h => h) (Or.inl ⟨by rfl, ?_⟩) hHeld ?_ ?_
  rotate_left
  · rintro w' ⟨s0, s1, s2, s3, s4⟩
    go_simp
    with_reducible rfl
  rotate_left
  · simp only [Act.put, List.setIfInBounds_toArray, List.set_cons_zero, List.set_cons_succ, i64_w, i32_w]
    rfl
  refine pure_ (i := 11) (N := some 34) (v := ?_) (a' := ?_) #[true, true, true, true, true, true, true, true, true, true, true, true, false] rfl rfl (by kernel_rfl) (fun _ _ _ h => h) (Or.inl ⟨by rfl, ?_⟩) ?_ ?_
  rotate_left
  · intro w'
    go_simp
    with_reducible rfl
  rotate_left
  · simp only [Act.put, List.setIfInBounds_toArray, List.set_cons_zero, List.set_cons_succ, i64_w, i32_w]
    rfl
  refine last_ (i := 12) (N := none) #[true, true, true, true, true, true, true, true, true, true, true, true, true] rfl rfl (by kernel_rfl) (by decide) (fun K hK => ?_)
  have v0 := (blk_cell AR1.out.box 0)
  have v1 := (blk_cell AR1.out.box 1)
  have v2 := (blk_cell AR1.out.box 2)
  have v3 := (blk_cell AR1.out.box 3)
  have v4 := (blk_cell AR1.out.box 4)
  have v5 := (blk_cell AR1.out.box 5)
  have v6 := (blk_cell AR1.out.box 6)
  have vf0 := blk_frozen AR1.out.box 0
  have vf1 := blk_frozen AR1.out.box 1
  have vf2 := blk_frozen AR1.out.box 2
  have vf3 := blk_frozen AR1.out.box 3
  have vf4 := blk_frozen AR1.out.box 4
  have vf5 := blk_frozen AR1.out.box 5
  have vf6 := blk_frozen AR1.out.box 6
  simp only [aV, z32, z30, List.getElem?_toArray, List.getElem?_cons_zero, List.getElem?_cons_succ] at v0 v1 v2 v3 v4 v5 v6
  refine skip_ (w1 := ?_) (by rfl) rfl ?_ ?_
  rotate_left
  · go_simp
    rfl
  refine hK.out _ _ ?_
  clear hK K
  refine done_ (by kernel_rfl) ?_
  obtain ⟨w6, hw6, AR6⟩ : ∃ V, ((((((((w1.drewN (1 + nd + 1)).setCell ⟨p, 0, none⟩ (.int .u8 4)).setCell ⟨p, 1, none⟩ (.int .i64 0)).setCell ⟨p, 2, none⟩ (.string (⟨#[]⟩ : ByteArray))).setCell ⟨p, 3, none⟩ (.string (⟨#[]⟩ : ByteArray))).setCell ⟨p, 4, none⟩ (.int .i64 0)).setCell ⟨p, 5, none⟩ (.int .u8 0)).setCell ⟨p, 6, none⟩ (.string t.f1)) = V ∧ Aside0 (AR w0 W V g (some ad) c l a p (⟨4, 0, z30, t.f1⟩ : S32)) := ⟨_, rfl, ⟨(AR1.out.drewN (1 + nd + 1)).put (⟨4, 0, z30, t.f1⟩ : S32)⟩⟩
  rw [hw6]
  clear hw6
  clear c0 c1 x0 x1 x2 AR1 AR2
  have y1 := AR6.out.rd.cell1
  have yf := blk_frozen AR6.out.rd.blk 1
  go_wp2
  have AR7 := Aside0.mk (AR6.out.seti a1)
  refine bodyPost_ret (results_ct rfl _ _ p 32 (aV (⟨4, 0, z30, t.f1⟩ : S32)) (0, 0) _ rfl (AR7.out.box) Tryd.underlying32 rfl (by kernel_rfl)) rfl ?_
  exact ⟨rfl, AR7.out.fr, E1.out ▸ AR7.out.rd⟩

set_option maxHeartbeats 8000000 in
set_option maxRecDepth 100000 in
theorem arg_reg (w0 W : World) (g : Nat) (A : Option Addr) (c : Nat) (l : List S53) (a : Nat) (hl : l.length ≤ 1000000) (ha : a ≤ l.length) (hs : ∀ x ∈ l, x.f1.size ≤ 1000000) (hT : Lib.TabIs Tryd.prog w0 "internal/strconv.uint64pow10" .u64 Lib.pow10Tab) (hD : LexW.LexD w0) (hM : ExW.ModsAt w0) (hG : LiW.RegsAt w0) (h : RD w0 W g A c l a) (t : S53) (ht : l[a]? = some t) (hk : ¬ t.f0 = 3) (n : Nat) (hq : regAt l a = some n) :
    Calls Tryd.prog 22 #[.pointer (some ⟨g, 0, none⟩)] W fun e W' => e = .returned (.tuple #[.agg (aV ⟨1, (n : Int), z30, (⟨#[]⟩ : ByteArray)⟩), .int .i64 0]) ∧ FR W W' g ∧ RD w0 W' g A c l (a + 1) := by
  have HR := Aside0.mk h
  have HT := Aside0.mk hT
  have HD := Aside0.mk hD
  have HM := Aside0.mk hM
  have HG := Aside0.mk hG
  have HL := Aside0.mk hl
  have HS := Aside0.mk hs
  have hlt : a < l.length := (List.getElem?_eq_some_iff.1 ht).1
  have HTT := Aside0.mk ht
  have HE := Aside0.mk (show decide (l.length ≤ a) = false from decide_eq_false (by omega))
  have p0 := eq_true (show (0 : Int) ≤ (a : Int) by omega)
  have q0 := eq_true (show (a : Int) < (l.length : Int) by omega)
  obtain ⟨a1, e1⟩ : ∃ x, x = a + 1 := ⟨_, rfl⟩
  have hb1 : wrap64 ((a : Int) + 1) = (a1 : Int) := by unfold wrap64; omega
  have E1 := Aside0.mk e1
  have k0 : (t.f0 == 3) = false := beq_eq_false_iff_ne.2 hk
  have HQ := Aside0.mk hq
  clear h hl ha hs hT hD hM hG hlt hk e1 ht hq
  go_enter Tryd.func22, Tryd.ntmps22
  go_wp2_with (first | ((with_reducible refine gate_dst (N := 2) rfl ?_); refine box_event ?hg (N := 2) ?hd (cs := #[.int .u8 0, .int .i64 0, .string (⟨#[]⟩ : ByteArray), .string (⟨#[]⟩ : ByteArray), .int .i64 0, .int .u8 0, .string (⟨#[]⟩ : ByteArray)]) (t := 32) ?hr ?_; (case hd => rfl); (case hg => rfl); (case hr => first | (go_simp; done) | (go_simp; rfl)); intro p hg w1 hbox hb; have AR1 : Aside0 (AR w0 W w1 g A c l a p z32) := ⟨⟨FR.of_below hb, by rw [hg]; exact Nat.le_refl _, HR.out.below hb, hbox, by rw [hg]; exact HR.out.bel.size, by rw [hg]; exact Nat.ne_of_lt (blk_lt HR.out.blk)⟩⟩; clear hb hbox hg))
  have c0 := AR1.out.rd.cell0
  have c1 := AR1.out.rd.cell1
  obtain ⟨ad, rfl, x0, x1, x2⟩ := AR1.out.rd.tok2 a t HTT.out
  refine start_ (n := 17) (S := fun w' => w'.cell? ⟨g, 0, none⟩ = some (.slice (some ad) l.length c) ∧ w'.cell? ⟨g, 1, none⟩ = some (.int .i64 (a : Int)) ∧ w'.cell? (ad.add (a * 3)) = some (.int .u8 t.f0) ∧ w'.cell? ⟨(ad.add (a * 3)).block, (ad.add (a * 3)).off + 1, none⟩ = some (.string t.f1) ∧ w'.cell? ⟨(ad.add (a * 3)).block, (ad.add (a * 3)).off + 2, none⟩ = some (.int .i64 t.f2)) (ds := []) #[false, false, false, false, false, false, false, false, false, false, false, false, false, false, false, false, false] (by kernel_rfl) rfl rfl ⟨c0, c1, x0, x1, x2⟩ (fun hHeld => ?_)
  refine pure_ (i := 0) (N := some 6) (v := ?_) (a' := ?_) #[true, false, false, false, false, false, false, false, false, false, false, false, false, false, false, false, false] rfl rfl (by kernel_rfl) (fun _ _ _ h => h) (Or.inl ⟨by rfl, ?_⟩) ?_ ?_
  rotate_left
  · intro w'
    go_simp
    with_reducible rfl
  rotate_left
  · simp only [Act.put, List.setIfInBounds_toArray, List.set_cons_zero, List.set_cons_succ, i64_w, i32_w]
    rfl
  refine one_ (i := 1) (N := some 7) #[true, true, false, false, false, false, false, false, false, false, false, false, false, false, false, false, false] rfl rfl (by kernel_rfl) (by decide) (fun K hK => ?_)
  refine goes_ Tryd.func15 (by kernel_rfl) rfl #[.pointer (some ⟨g, 0, none⟩)] (by rfl) rfl rfl (by simp only [List.map_toArray, List.map_cons, List.map_nil]; rfl) ?_
  with_reducible refine (end_walk w0 _ g (some ad) c l a AR1.out.rd.drew false HE.out).mono ?_
  rintro e w5 ⟨rfl, ⟨nd, rfl⟩⟩
  refine ⟨_, rfl, ?_⟩
  have AR2 := Aside0.mk (AR1.out.drew.drewN nd)
  refine hK.out _ _ ⟨hHeld.1, hHeld.2.1, hHeld.2.2.1, hHeld.2.2.2.1, hHeld.2.2.2.2⟩ (fun hHeld => ?_)
  clear hK K
  refine norm_ (a' := ?_) ?_ ?_
  rotate_left
  · show Act.put _ (some 7) _ = _
    simp only [Act.put, List.setIfInBounds_toArray, List.set_cons_zero, List.set_cons_succ, i64_w, i32_w]
    rfl
  refine pure_ (i := 2) (N := some 8) (v := ?_) (a' := ?_) #[true, true, true, false, false, false, false, false, false, false, false, false, false, false, false, false, false] rfl rfl (by kernel_rfl) (fun _ _ _ h => h) (Or.inl ⟨by rfl, ?_⟩) ?_ ?_
  rotate_left
  · intro w'
    go_simp
    with_reducible rfl
  rotate_left
  · simp only [Act.put, List.setIfInBounds_toArray, List.set_cons_zero, List.set_cons_succ, i64_w, i32_w]
    rfl
  refine pure_ (i := 3) (N := some 9) (v := ?_) (a' := ?_) #[true, true, true, true, false, false, false, false, false, false, false, false, false, false, false, false, false] rfl rfl (by kernel_rfl) (fun _ _ _ h => h) (Or.inl ⟨by rfl, ?_⟩) ?_ ?_
  rotate_left
  · intro w'
    go_simp
    with_reducible rfl
  rotate_left
  · simp only [Act.put, List.setIfInBounds_toArray, List.set_cons_zero, List.set_cons_succ, i64_w, i32_w]
    rfl
  refine pure_ (i := 4) (N := some 10) (v := ?_) (a' := ?_) #[true, true, true, true, true, false, false, false, false, false, false, false, false, false, false, false, false] rfl rfl (by kernel_rfl) (fun _ _ _ h => h) (Or.inl ⟨by rfl, ?_⟩) ?_ ?_
  rotate_left
  · intro w'
    go_simp
    with_reducible rfl
  rotate_left
  · simp only [Act.put, List.setIfInBounds_toArray, List.set_cons_zero, List.set_cons_succ, i64_w, i32_w]
    rfl
  refine pure_ (i := 5) (N := some 11) (v := ?_) (a' := ?_) #[true, true, true, true, true, true, false, false, false, false, false, false, false, false, false, false, false] rfl rfl (by kernel_rfl) (fun _ _ _ h => h) (Or.inl ⟨by rfl, ?_⟩) ?_ ?_
  rotate_left
  · intro w'
    go_simp
    with_reducible rfl
  rotate_left
  · simp only [Act.put, List.setIfInBounds_toArray, List.set_cons_zero, List.set_cons_succ, i64_w, i32_w]
    rfl
  refine pure_ (i := 6) (N := some 12) (v := ?_) (a' := ?_) #[true, true, true, true, true, true, true, false, false, false, false, false, false, false, false, false, false] rfl rfl (by kernel_rfl) (fun _ _ _ h => h) (Or.inl ⟨by rfl, ?_⟩) ?_ ?_
  rotate_left
  · intro w'
    go_simp
    with_reducible rfl
  rotate_left
  · simp only [Act.put, List.setIfInBounds_toArray, List.set_cons_zero, List.set_cons_succ, i64_w, i32_w]
    rfl
  refine pure_ (i := 8) (N := some 14) (v := ?_) (a' := ?_) #[true, true, true, true, true, true, true, false, true, false, false, false, false, false, false, false, false] rfl rfl (by kernel_rfl) (fun _ _ _ h => h) (Or.inl ⟨by rfl, ?_⟩) ?_ ?_
  rotate_left
  · intro w'
    go_simp
    with_reducible rfl
  rotate_left
  · simp only [Act.put, List.setIfInBounds_toArray, List.set_cons_zero, List.set_cons_succ, i64_w, i32_w]
    rfl
  refine pure_ (i := 9) (N := some 15) (v := ?_) (a' := ?_) #[true, true, true, true, true, true, true, false, true, true, false, false, false, false, false, false, false] rfl rfl (by kernel_rfl) (fun _ _ _ h => h) (Or.inl ⟨by rfl, ?_⟩) ?_ ?_
  rotate_left
  · intro w'
    go_simp
    with_reducible rfl
  rotate_left
  · simp only [Act.put, List.setIfInBounds_toArray, List.set_cons_zero, List.set_cons_succ, i64_w, i32_w]
    rfl
  refine pure_ (i := 10) (N := some 16) (v := ?_) (a' := ?_) #[true, true, true, true, true, true, true, false, true, true, true, false, false, false, false, false, false] rfl rfl (by kernel_rfl) (fun _ _ _ h => h) (Or.inl ⟨by rfl, ?_⟩) ?_ ?_
  rotate_left
  · intro w'
    go_simp
    with_reducible rfl
  rotate_left
  · simp only [Act.put, List.setIfInBounds_toArray, List.set_cons_zero, List.set_cons_succ, i64_w, i32_w]
    rfl
  refine take_ (i := 7) (N := some 13) (v := ?_) (a' := ?_) #[true, true, true, true, true, true, true, true, true, true, true, false, false, false, false, false, false] rfl rfl (by kernel_rfl) (fun _ _ _ h => h) (Or.inl ⟨by rfl, ?_⟩) hHeld ?_ ?_
  rotate_left
  · rintro w' ⟨s0, s1, s2, s3, s4⟩
    go_simp
    with_reducible rfl
  rotate_left
  · simp only [Act.put, List.setIfInBounds_toArray, List.set_cons_zero, List.set_cons_succ, i64_w, i32_w]
    rfl
  refine take_ (i := 11) (N := some 17) (v := ?_) (a' := ?_) #[true, true, true, true, true, true, true, true, true, true, true, true, false, false, false, false, false] rfl rfl (by kernel_rfl) (fun _ _ _ h => h) (Or.inl ⟨by rfl, ?_⟩) hHeld ?_ ?_
  rotate_left
  · rintro w' ⟨s0, s1, s2, s3, s4⟩
    go_simp
    with_reducible rfl
  rotate_left
  · simp only [Act.put, List.setIfInBounds_toArray, List.set_cons_zero, List.set_cons_succ, i64_w, i32_w]
    rfl
  refine pure_ (i := 12) (N := some 18) (v := ?_) (a' := ?_) #[true, true, true, true, true, true, true, true, true, true, true, true, true, false, false, false, false] rfl rfl (by kernel_rfl) (fun _ _ _ h => h) (Or.inl ⟨by rfl, ?_⟩) ?_ ?_
  rotate_left
  · intro w'
    go_simp
    with_reducible rfl
  rotate_left
  · simp only [Act.put, List.setIfInBounds_toArray, List.set_cons_zero, List.set_cons_succ, i64_w, i32_w]
    rfl
  refine pure_ (i := 13) (N := some 19) (v := ?_) (a' := ?_) #[true, true, true, true, true, true, true, true, true, true, true, true, true, true, false, false, false] rfl rfl (by kernel_rfl) (fun _ _ _ h => h) (Or.inl ⟨by rfl, ?_⟩) ?_ ?_
  rotate_left
  · intro w'
    go_simp
    with_reducible rfl
  rotate_left
  · simp only [Act.put, List.setIfInBounds_toArray, List.set_cons_zero, List.set_cons_succ, i64_w, i32_w]
    rfl
  refine take_ (i := 14) (N := some 20) (v := ?_) (a' := ?_) #[true, true, true, true, true, true, true, true, true, true, true, true, true, true, true, false, false] rfl rfl (by kernel_rfl) (fun _ _ _ h => h) (Or.inl ⟨by rfl, ?_⟩) hHeld ?_ ?_
  rotate_left
  · rintro w' ⟨s0, s1, s2, s3, s4⟩
    go_simp
    with_reducible rfl
  rotate_left
  · simp only [Act.put, List.setIfInBounds_toArray, List.set_cons_zero, List.set_cons_succ, i64_w, i32_w]
    rfl
  refine pure_ (i := 15) (N := some 21) (v := ?_) (a' := ?_) #[true, true, true, true, true, true, true, true, true, true, true, true, true, true, true, true, false] rfl rfl (by kernel_rfl) (fun _ _ _ h => h) (Or.inl ⟨by rfl, ?_⟩) ?_ ?_
  rotate_left
  · intro w'
    go_simp
    with_reducible rfl
  rotate_left
  · simp only [Act.put, List.setIfInBounds_toArray, List.set_cons_zero, List.set_cons_succ, i64_w, i32_w]
    rfl
  refine pure_ (i := 16) (N := some 22) (v := ?_) (a' := ?_) #[true, true, true, true, true, true, true, true, true, true, true, true, true, true, true, true, true] rfl rfl (by kernel_rfl) (fun _ _ _ h => h) (Or.inl ⟨by rfl, ?_⟩) ?_ ?_
  rotate_left
  · intro w'
    go_simp
    with_reducible rfl
  rotate_left
  · simp only [Act.put, List.setIfInBounds_toArray, List.set_cons_zero, List.set_cons_succ, i64_w, i32_w]
    rfl
  refine done_ (by kernel_rfl) ?_
  have AR3 := Aside0.mk (AR1.out.drewN (1 + nd))
  go_wp2_with (first | (go_at_call 35; (with_reducible refine (register_walk w0 _ g (some ad) c l a HL.out HS.out HT.out HG.out AR3.out.rd (some n) HQ.out).mono ?_); rintro e w2 ⟨rfl, hp, hf⟩; have AR4 := Aside0.mk (AR3.out.step hf hp); have v0 := (blk_cell AR4.out.box 0); have v1 := (blk_cell AR4.out.box 1); have v2 := (blk_cell AR4.out.box 2); have v3 := (blk_cell AR4.out.box 3); have v4 := (blk_cell AR4.out.box 4); have v5 := (blk_cell AR4.out.box 5); have v6 := (blk_cell AR4.out.box 6); have vf0 := blk_frozen AR4.out.box 0; have vf1 := blk_frozen AR4.out.box 1; have vf2 := blk_frozen AR4.out.box 2; have vf3 := blk_frozen AR4.out.box 3; have vf4 := blk_frozen AR4.out.box 4; have vf5 := blk_frozen AR4.out.box 5; have vf6 := blk_frozen AR4.out.box 6; simp only [aV, z32, z30, List.getElem?_toArray, List.getElem?_cons_zero, List.getElem?_cons_succ] at v0 v1 v2 v3 v4 v5 v6; clear hp hf))
  obtain ⟨w6, hw6, AR6⟩ : ∃ V, (((((((w2.setCell ⟨p, 0, none⟩ (.int .u8 1)).setCell ⟨p, 1, none⟩ (.int .i64 (n : Int))).setCell ⟨p, 2, none⟩ (.string (⟨#[]⟩ : ByteArray))).setCell ⟨p, 3, none⟩ (.string (⟨#[]⟩ : ByteArray))).setCell ⟨p, 4, none⟩ (.int .i64 0)).setCell ⟨p, 5, none⟩ (.int .u8 0)).setCell ⟨p, 6, none⟩ (.string (⟨#[]⟩ : ByteArray))) = V ∧ Aside0 (AR w0 W V g (some ad) c l (a + 1) p (⟨1, (n : Int), z30, (⟨#[]⟩ : ByteArray)⟩ : S32)) := ⟨_, rfl, ⟨AR4.out.put (⟨1, (n : Int), z30, (⟨#[]⟩ : ByteArray)⟩ : S32)⟩⟩
  rw [hw6]
  clear hw6
  go_wp2
  refine bodyPost_ret (results_ct rfl _ _ p 32 (aV (⟨1, (n : Int), z30, (⟨#[]⟩ : ByteArray)⟩ : S32)) (0, 0) _ rfl (AR6.out.box) Tryd.underlying32 rfl (by kernel_rfl)) rfl ?_
  exact ⟨rfl, AR6.out.fr, AR6.out.rd⟩

set_option maxHeartbeats 8000000 in
set_option maxRecDepth 100000 in
theorem arg_mem_none (w0 W : World) (g : Nat) (A : Option Addr) (c : Nat) (l : List S53) (a : Nat) (hl : l.length ≤ 1000000) (ha : a ≤ l.length) (hs : ∀ x ∈ l, x.f1.size ≤ 1000000) (hT : Lib.TabIs Tryd.prog w0 "internal/strconv.uint64pow10" .u64 Lib.pow10Tab) (hD : LexW.LexD w0) (hM : ExW.ModsAt w0) (hG : LiW.RegsAt w0) (h : RD w0 W g A c l a) (t : S53) (ht : l[a]? = some t) (hk : ¬ t.f0 = 3) (hq : regAt l a = none) (hm : markB l a 40 = true) (ho : byAt l a = none) :
    Calls Tryd.prog 22 #[.pointer (some ⟨g, 0, none⟩)] W fun e W' => e = .returned (.tuple #[.agg (aV (⟨3, 0, z30, (⟨#[]⟩ : ByteArray)⟩ : S32)), .int .i64 170]) ∧ FR W W' g ∧ ∃ a', RD w0 W' g A c l a' := by
  have HR := Aside0.mk h
  have HT := Aside0.mk hT
  have HD := Aside0.mk hD
  have HM := Aside0.mk hM
  have HG := Aside0.mk hG
  have HL := Aside0.mk hl
  have HS := Aside0.mk hs
  have hlt : a < l.length := (List.getElem?_eq_some_iff.1 ht).1
  have HTT := Aside0.mk ht
  have HE := Aside0.mk (show decide (l.length ≤ a) = false from decide_eq_false (by omega))
  have p0 := eq_true (show (0 : Int) ≤ (a : Int) by omega)
  have q0 := eq_true (show (a : Int) < (l.length : Int) by omega)
  obtain ⟨a1, e1⟩ : ∃ x, x = a + 1 := ⟨_, rfl⟩
  have hb1 : wrap64 ((a : Int) + 1) = (a1 : Int) := by unfold wrap64; omega
  have E1 := Aside0.mk e1
  have k0 : (t.f0 == 3) = false := beq_eq_false_iff_ne.2 hk
  have HQ := Aside0.mk hq
  have HMK := Aside0.mk hm
  have HO := Aside0.mk ho
  have HA := Aside0.mk ha
  have hb0 : wrap64 ((a : Int) + 0) = (a : Int) := by unfold wrap64; omega
  clear h hl ha hs hT hD hM hG hlt hk e1 ht hq hm ho
  go_enter Tryd.func22, Tryd.ntmps22
  go_wp2_with (first | ((with_reducible refine gate_dst (N := 2) rfl ?_); refine box_event ?hg (N := 2) ?hd (cs := #[.int .u8 0, .int .i64 0, .string (⟨#[]⟩ : ByteArray), .string (⟨#[]⟩ : ByteArray), .int .i64 0, .int .u8 0, .string (⟨#[]⟩ : ByteArray)]) (t := 32) ?hr ?_; (case hd => rfl); (case hg => rfl); (case hr => first | (go_simp; done) | (go_simp; rfl)); intro p hg w1 hbox hb; have AR1 : Aside0 (AR w0 W w1 g A c l a p z32) := ⟨⟨FR.of_below hb, by rw [hg]; exact Nat.le_refl _, HR.out.below hb, hbox, by rw [hg]; exact HR.out.bel.size, by rw [hg]; exact Nat.ne_of_lt (blk_lt HR.out.blk)⟩⟩; clear hb hbox hg))
  have c0 := AR1.out.rd.cell0
  have c1 := AR1.out.rd.cell1
  obtain ⟨ad, rfl, x0, x1, x2⟩ := AR1.out.rd.tok2 a t HTT.out
  refine start_ (n := 17) (S := fun w' => w'.cell? ⟨g, 0, none⟩ = some (.slice (some ad) l.length c) ∧ w'.cell? ⟨g, 1, none⟩ = some (.int .i64 (a : Int)) ∧ w'.cell? (ad.add (a * 3)) = some (.int .u8 t.f0) ∧ w'.cell? ⟨(ad.add (a * 3)).block, (ad.add (a * 3)).off + 1, none⟩ = some (.string t.f1) ∧ w'.cell? ⟨(ad.add (a * 3)).block, (ad.add (a * 3)).off + 2, none⟩ = some (.int .i64 t.f2)) (ds := []) #[false, false, false, false, false, false, false, false, false, false, false, false, false, false, false, false, false] (by kernel_rfl) rfl rfl ⟨c0, c1, x0, x1, x2⟩ (fun hHeld => ?_)
  refine pure_ (i := 0) (N := some 6) (v := ?_) (a' := ?_) #[true, false, false, false, false, false, false, false, false, false, false, false, false, false, false, false, false] rfl rfl (by kernel_rfl) (fun _ _ _ h => h) (Or.inl ⟨by rfl, ?_⟩) ?_ ?_
  rotate_left
  · intro w'
    go_simp
    with_reducible rfl
  rotate_left
  · simp only [Act.put, List.setIfInBounds_toArray, List.set_cons_zero, List.set_cons_succ, i64_w, i32_w]
    rfl
  refine one_ (i := 1) (N := some 7) #[true, true, false, false, false, false, false, false, false, false, false, false, false, false, false, false, false] rfl rfl (by kernel_rfl) (by decide) (fun K hK => ?_)
  refine goes_ Tryd.func15 (by kernel_rfl) rfl #[.pointer (some ⟨g, 0, none⟩)] (by rfl) rfl rfl (by simp only [List.map_toArray, List.map_cons, List.map_nil]; rfl) ?_
  with_reducible refine (end_walk w0 _ g (some ad) c l a AR1.out.rd.drew false HE.out).mono ?_
  rintro e w5 ⟨rfl, ⟨nd, rfl⟩⟩
  refine ⟨_, rfl, ?_⟩
  have AR2 := Aside0.mk (AR1.out.drew.drewN nd)
  refine hK.out _ _ ⟨hHeld.1, hHeld.2.1, hHeld.2.2.1, hHeld.2.2.2.1, hHeld.2.2.2.2⟩ (fun hHeld => ?_)
  clear hK K
  refine norm_ (a' := ?_) ?_ ?_
  rotate_left
  · show Act.put _ (some 7) _ = _
    simp only [Act.put, List.setIfInBounds_toArray, List.set_cons_zero, List.set_cons_succ, i64_w, i32_w]
    rfl
  refine pure_ (i := 2) (N := some 8) (v := ?_) (a' := ?_) #[true, true, true, false, false, false, false, false, false, false, false, false, false, false, false, false, false] rfl rfl (by kernel_rfl) (fun _ _ _ h => h) (Or.inl ⟨by rfl, ?_⟩) ?_ ?_
  rotate_left
  · intro w'
    go_simp
    with_reducible rfl
  rotate_left
  · simp only [Act.put, List.setIfInBounds_toArray, List.set_cons_zero, List.set_cons_succ, i64_w, i32_w]
    rfl
  refine pure_ (i := 3) (N := some 9) (v := ?_) (a' := ?_) #[true, true, true, true, false, false, false, false, false, false, false, false, false, false, false, false, false] rfl rfl (by kernel_rfl) (fun _ _ _ h => h) (Or.inl ⟨by rfl, ?_⟩) ?_ ?_
  rotate_left
  · intro w'
    go_simp
    with_reducible rfl
  rotate_left
  · simp only [Act.put, List.setIfInBounds_toArray, List.set_cons_zero, List.set_cons_succ, i64_w, i32_w]
    rfl
  refine pure_ (i := 4) (N := some 10) (v := ?_) (a' := ?_) #[true, true, true, true, true, false, false, false, false, false, false, false, false, false, false, false, false] rfl rfl (by kernel_rfl) (fun _ _ _ h => h) (Or.inl ⟨by rfl, ?_⟩) ?_ ?_
  rotate_left
  · intro w'
    go_simp
    with_reducible rfl
  rotate_left
  · simp only [Act.put, List.setIfInBounds_toArray, List.set_cons_zero, List.set_cons_succ, i64_w, i32_w]
    rfl
  refine pure_ (i := 5) (N := some 11) (v := ?_) (a' := ?_) #[true, true, true, true, true, true, false, false, false, false, false, false, false, false, false, false, false] rfl rfl (by kernel_rfl) (fun _ _ _ h => h) (Or.inl ⟨by rfl, ?_⟩) ?_ ?_
  rotate_left
  · intro w'
    go_simp
    with_reducible rfl
  rotate_left
  · simp only [Act.put, List.setIfInBounds_toArray, List.set_cons_zero, List.set_cons_succ, i64_w, i32_w]
    rfl
  refine pure_ (i := 6) (N := some 12) (v := ?_) (a' := ?_) #[true, true, true, true, true, true, true, false, false, false, false, false, false, false, false, false, false] rfl rfl (by kernel_rfl) (fun _ _ _ h => h) (Or.inl ⟨by rfl, ?_⟩) ?_ ?_
  rotate_left
  · intro w'
    go_simp
    with_reducible rfl
  rotate_left
  · simp only [Act.put, List.setIfInBounds_toArray, List.set_cons_zero, List.set_cons_succ, i64_w, i32_w]
    rfl
  refine pure_ (i := 8) (N := some 14) (v := ?_) (a' := ?_) #[true, true, true, true, true, true, true, false, true, false, false, false, false, false, false, false, false] rfl rfl (by kernel_rfl) (fun _ _ _ h => h) (Or.inl ⟨by rfl, ?_⟩) ?_ ?_
  rotate_left
  · intro w'
    go_simp
    with_reducible rfl
  rotate_left
  · simp only [Act.put, List.setIfInBounds_toArray, List.set_cons_zero, List.set_cons_succ, i64_w, i32_w]
    rfl
  refine pure_ (i := 9) (N := some 15) (v := ?_) (a' := ?_) #[true, true, true, true, true, true, true, false, true, true, false, false, false, false, false, false, false] rfl rfl (by kernel_rfl) (fun _ _ _ h => h) (Or.inl ⟨by rfl, ?_⟩) ?_ ?_
  rotate_left
  · intro w'
    go_simp
    with_reducible rfl
  rotate_left
  · simp only [Act.put, List.setIfInBounds_toArray, List.set_cons_zero, List.set_cons_succ, i64_w, i32_w]
    rfl
  refine pure_ (i := 10) (N := some 16) (v := ?_) (a' := ?_) #[true, true, true, true, true, true, true, false, true, true, true, false, false, false, false, false, false] rfl rfl (by kernel_rfl) (fun _ _ _ h => h) (Or.inl ⟨by rfl, ?_⟩) ?_ ?_
  rotate_left
  · intro w'
    go_simp
    with_reducible rfl
  rotate_left
  · simp only [Act.put, List.setIfInBounds_toArray, List.set_cons_zero, List.set_cons_succ, i64_w, i32_w]
    rfl
  refine take_ (i := 7) (N := some 13) (v := ?_) (a' := ?_) #[true, true, true, true, true, true, true, true, true, true, true, false, false, false, false, false, false] rfl rfl (by kernel_rfl) (fun _ _ _ h => h) (Or.inl ⟨by rfl, ?_⟩) hHeld ?_ ?_
  rotate_left
  · rintro w' ⟨s0, s1, s2, s3, s4⟩
    go_simp
    with_reducible rfl
  rotate_left
  · simp only [Act.put, List.setIfInBounds_toArray, List.set_cons_zero, List.set_cons_succ, i64_w, i32_w]
    rfl
  refine take_ (i := 11) (N := some 17) (v := ?_) (a' := ?_) #[true, true, true, true, true, true, true, true, true, true, true, true, false, false, false, false, false] rfl rfl (by kernel_rfl) (fun _ _ _ h => h) (Or.inl ⟨by rfl, ?_⟩) hHeld ?_ ?_
  rotate_left
  · rintro w' ⟨s0, s1, s2, s3, s4⟩
    go_simp
    with_reducible rfl
  rotate_left
  · simp only [Act.put, List.setIfInBounds_toArray, List.set_cons_zero, List.set_cons_succ, i64_w, i32_w]
    rfl
  refine pure_ (i := 12) (N := some 18) (v := ?_) (a' := ?_) #[true, true, true, true, true, true, true, true, true, true, true, true, true, false, false, false, false] rfl rfl (by kernel_rfl) (fun _ _ _ h => h) (Or.inl ⟨by rfl, ?_⟩) ?_ ?_
  rotate_left
  · intro w'
    go_simp
    with_reducible rfl
  rotate_left
  · simp only [Act.put, List.setIfInBounds_toArray, List.set_cons_zero, List.set_cons_succ, i64_w, i32_w]
    rfl
  refine pure_ (i := 13) (N := some 19) (v := ?_) (a' := ?_) #[true, true, true, true, true, true, true, true, true, true, true, true, true, true, false, false, false] rfl rfl (by kernel_rfl) (fun _ _ _ h => h) (Or.inl ⟨by rfl, ?_⟩) ?_ ?_
  rotate_left
  · intro w'
    go_simp
    with_reducible rfl
  rotate_left
  · simp only [Act.put, List.setIfInBounds_toArray, List.set_cons_zero, List.set_cons_succ, i64_w, i32_w]
    rfl
  refine take_ (i := 14) (N := some 20) (v := ?_) (a' := ?_) #[true, true, true, true, true, true, true, true, true, true, true, true, true, true, true, false, false] rfl rfl (by kernel_rfl) (fun _ _ _ h => h) (Or.inl ⟨by rfl, ?_⟩) hHeld ?_ ?_
  rotate_left
  · rintro w' ⟨s0, s1, s2, s3, s4⟩
    go_simp
    with_reducible rfl
  rotate_left
  · simp only [Act.put, List.setIfInBounds_toArray, List.set_cons_zero, List.set_cons_succ, i64_w, i32_w]
    rfl
  refine pure_ (i := 15) (N := some 21) (v := ?_) (a' := ?_) #[true, true, true, true, true, true, true, true, true, true, true, true, true, true, true, true, false] rfl rfl (by kernel_rfl) (fun _ _ _ h => h) (Or.inl ⟨by rfl, ?_⟩) ?_ ?_
  rotate_left
  · intro w'
    go_simp
    with_reducible rfl
  rotate_left
  · simp only [Act.put, List.setIfInBounds_toArray, List.set_cons_zero, List.set_cons_succ, i64_w, i32_w]
    rfl
  refine pure_ (i := 16) (N := some 22) (v := ?_) (a' := ?_) #[true, true, true, true, true, true, true, true, true, true, true, true, true, true, true, true, true] rfl rfl (by kernel_rfl) (fun _ _ _ h => h) (Or.inl ⟨by rfl, ?_⟩) ?_ ?_
  rotate_left
  · intro w'
    go_simp
    with_reducible rfl
  rotate_left
  · simp only [Act.put, List.setIfInBounds_toArray, List.set_cons_zero, List.set_cons_succ, i64_w, i32_w]
    rfl
  refine done_ (by kernel_rfl) ?_
  have AR3 := Aside0.mk (AR1.out.drewN (1 + nd))
  go_wp2_with (first | (go_at_call 35; (with_reducible refine (register_walk w0 _ g (some ad) c l a HL.out HS.out HT.out HG.out AR3.out.rd none HQ.out).mono ?_); rintro e w2 ⟨rfl, hp, hf⟩; have AR4 := Aside0.mk (AR3.out.step hf hp); have v0 := (blk_cell AR4.out.box 0); have v1 := (blk_cell AR4.out.box 1); have v2 := (blk_cell AR4.out.box 2); have v3 := (blk_cell AR4.out.box 3); have v4 := (blk_cell AR4.out.box 4); have v5 := (blk_cell AR4.out.box 5); have v6 := (blk_cell AR4.out.box 6); have vf0 := blk_frozen AR4.out.box 0; have vf1 := blk_frozen AR4.out.box 1; have vf2 := blk_frozen AR4.out.box 2; have vf3 := blk_frozen AR4.out.box 3; have vf4 := blk_frozen AR4.out.box 4; have vf5 := blk_frozen AR4.out.box 5; have vf6 := blk_frozen AR4.out.box 6; simp only [aV, z32, z30, List.getElem?_toArray, List.getElem?_cons_zero, List.getElem?_cons_succ] at v0 v1 v2 v3 v4 v5 v6; clear hp hf) | (go_at_call 20; (with_reducible refine (is_walk w0 _ g (some ad) c l a a 0 40 hb0 (AR4.out.setx (y := (⟨2, 0, z30, (⟨#[]⟩ : ByteArray)⟩ : S32)) 0 (.int .u8 2) rfl).rd true HMK.out).mono ?_); rintro e w3 ⟨rfl, ⟨nd2, rfl⟩⟩; skip) | (go_at_call 38; (with_reducible refine (by_walk w0 _ g (some ad) c l a HL.out (by have := HA.out; have := HL.out; omega) HS.out HT.out HG.out (((AR4.out.setx (y := (⟨2, 0, z30, (⟨#[]⟩ : ByteArray)⟩ : S32)) 0 (.int .u8 2) rfl).drewN nd2).setx (y := (⟨3, 0, z30, (⟨#[]⟩ : ByteArray)⟩ : S32)) 0 (.int .u8 3) rfl).rd _ HO.out).mono ?_); rintro e w4 ⟨rfl, hf, a', hp, hq⟩; have AR8 := Aside0.mk ((((AR4.out.setx (y := (⟨2, 0, z30, (⟨#[]⟩ : ByteArray)⟩ : S32)) 0 (.int .u8 2) rfl).drewN nd2).setx (y := (⟨3, 0, z30, (⟨#[]⟩ : ByteArray)⟩ : S32)) 0 (.int .u8 3) rfl).step hf hp); have HQ8 := Aside0.mk hq; have v0 := (blk_cell AR8.out.box 0); have v1 := (blk_cell AR8.out.box 1); have v2 := (blk_cell AR8.out.box 2); have v3 := (blk_cell AR8.out.box 3); have v4 := (blk_cell AR8.out.box 4); have v5 := (blk_cell AR8.out.box 5); have v6 := (blk_cell AR8.out.box 6); have vf0 := blk_frozen AR8.out.box 0; have vf1 := blk_frozen AR8.out.box 1; have vf2 := blk_frozen AR8.out.box 2; have vf3 := blk_frozen AR8.out.box 3; have vf4 := blk_frozen AR8.out.box 4; have vf5 := blk_frozen AR8.out.box 5; have vf6 := blk_frozen AR8.out.box 6; simp only [aV, z32, z30, List.getElem?_toArray, List.getElem?_cons_zero, List.getElem?_cons_succ] at v0 v1 v2 v3 v4 v5 v6; clear hp hf hq))
  have AR9 := Aside0.mk (AR8.out.setx (y := (⟨3, 0, z30, (⟨#[]⟩ : ByteArray)⟩ : S32)) 1 (.int .i64 0) rfl)
  refine bodyPost_ret (results_ct rfl _ _ p 32 (aV (⟨3, 0, z30, (⟨#[]⟩ : ByteArray)⟩ : S32)) (0, 0) _ rfl (AR9.out.box) Tryd.underlying32 rfl (by kernel_rfl)) rfl ?_
  exact ⟨rfl, AR9.out.fr, _, AR9.out.rd⟩

set_option maxHeartbeats 8000000 in
set_option maxRecDepth 100000 in
theorem arg_mem_some (w0 W : World) (g : Nat) (A : Option Addr) (c : Nat) (l : List S53) (a : Nat) (hl : l.length ≤ 1000000) (ha : a ≤ l.length) (hs : ∀ x ∈ l, x.f1.size ≤ 1000000) (hT : Lib.TabIs Tryd.prog w0 "internal/strconv.uint64pow10" .u64 Lib.pow10Tab) (hD : LexW.LexD w0) (hM : ExW.ModsAt w0) (hG : LiW.RegsAt w0) (h : RD w0 W g A c l a) (t : S53) (ht : l[a]? = some t) (hk : ¬ t.f0 = 3) (hq : regAt l a = none) (hm : markB l a 40 = true) (n : Nat) (ho : byAt l a = (some n)) :
    Calls Tryd.prog 22 #[.pointer (some ⟨g, 0, none⟩)] W fun e W' => e = .returned (.tuple #[.agg (aV (⟨3, (n : Int), z30, (⟨#[]⟩ : ByteArray)⟩ : S32)), .int .i64 0]) ∧ FR W W' g ∧ RD w0 W' g A c l (a + 3) := by
  have HR := Aside0.mk h
  have HT := Aside0.mk hT
  have HD := Aside0.mk hD
  have HM := Aside0.mk hM
  have HG := Aside0.mk hG
  have HL := Aside0.mk hl
  have HS := Aside0.mk hs
  have hlt : a < l.length := (List.getElem?_eq_some_iff.1 ht).1
  have HTT := Aside0.mk ht
  have HE := Aside0.mk (show decide (l.length ≤ a) = false from decide_eq_false (by omega))
  have p0 := eq_true (show (0 : Int) ≤ (a : Int) by omega)
  have q0 := eq_true (show (a : Int) < (l.length : Int) by omega)
  obtain ⟨a1, e1⟩ : ∃ x, x = a + 1 := ⟨_, rfl⟩
  have hb1 : wrap64 ((a : Int) + 1) = (a1 : Int) := by unfold wrap64; omega
  have E1 := Aside0.mk e1
  have k0 : (t.f0 == 3) = false := beq_eq_false_iff_ne.2 hk
  have HQ := Aside0.mk hq
  have HMK := Aside0.mk hm
  have HO := Aside0.mk ho
  have HA := Aside0.mk ha
  have hb0 : wrap64 ((a : Int) + 0) = (a : Int) := by unfold wrap64; omega
  clear h hl ha hs hT hD hM hG hlt hk e1 ht hq hm ho
  go_enter Tryd.func22, Tryd.ntmps22
  go_wp2_with (first | ((with_reducible refine gate_dst (N := 2) rfl ?_); refine box_event ?hg (N := 2) ?hd (cs := #[.int .u8 0, .int .i64 0, .string (⟨#[]⟩ : ByteArray), .string (⟨#[]⟩ : ByteArray), .int .i64 0, .int .u8 0, .string (⟨#[]⟩ : ByteArray)]) (t := 32) ?hr ?_; (case hd => rfl); (case hg => rfl); (case hr => first | (go_simp; done) | (go_simp; rfl)); intro p hg w1 hbox hb; have AR1 : Aside0 (AR w0 W w1 g A c l a p z32) := ⟨⟨FR.of_below hb, by rw [hg]; exact Nat.le_refl _, HR.out.below hb, hbox, by rw [hg]; exact HR.out.bel.size, by rw [hg]; exact Nat.ne_of_lt (blk_lt HR.out.blk)⟩⟩; clear hb hbox hg))
  have c0 := AR1.out.rd.cell0
  have c1 := AR1.out.rd.cell1
  obtain ⟨ad, rfl, x0, x1, x2⟩ := AR1.out.rd.tok2 a t HTT.out
  refine start_ (n := 17) (S := fun w' => w'.cell? ⟨g, 0, none⟩ = some (.slice (some ad) l.length c) ∧ w'.cell? ⟨g, 1, none⟩ = some (.int .i64 (a : Int)) ∧ w'.cell? (ad.add (a * 3)) = some (.int .u8 t.f0) ∧ w'.cell? ⟨(ad.add (a * 3)).block, (ad.add (a * 3)).off + 1, none⟩ = some (.string t.f1) ∧ w'.cell? ⟨(ad.add (a * 3)).block, (ad.add (a * 3)).off + 2, none⟩ = some (.int .i64 t.f2)) (ds := []) #[false, false, false, false, false, false, false, false, false, false, false, false, false, false, false, false, false] (by kernel_rfl) rfl rfl ⟨c0, c1, x0, x1, x2⟩ (fun hHeld => ?_)
  refine pure_ (i := 0) (N := some 6) (v := ?_) (a' := ?_) #[true, false, false, false, false, false, false, false, false, false, false, false, false, false, false, false, false] rfl rfl (by kernel_rfl) (fun _ _ _ h => h) (Or.inl ⟨by rfl, ?_⟩) ?_ ?_
  rotate_left
  · intro w'
    go_simp
    with_reducible rfl
  rotate_left
  · simp only [Act.put, List.setIfInBounds_toArray, List.set_cons_zero, List.set_cons_succ, i64_w, i32_w]
    rfl
  refine one_ (i := 1) (N := some 7) #[true, true, false, false, false, false, false, false, false, false, false, false, false, false, false, false, false] rfl rfl (by kernel_rfl) (by decide) (fun K hK => ?_)
  refine goes_ Tryd.func15 (by kernel_rfl) rfl #[.pointer (some ⟨g, 0, none⟩)] (by rfl) rfl rfl (by simp only [List.map_toArray, List.map_cons, List.map_nil]; rfl) ?_
  with_reducible refine (end_walk w0 _ g (some ad) c l a AR1.out.rd.drew false HE.out).mono ?_
  rintro e w5 ⟨rfl, ⟨nd, rfl⟩⟩
  refine ⟨_, rfl, ?_⟩
  have AR2 := Aside0.mk (AR1.out.drew.drewN nd)
  refine hK.out _ _ ⟨hHeld.1, hHeld.2.1, hHeld.2.2.1, hHeld.2.2.2.1, hHeld.2.2.2.2⟩ (fun hHeld => ?_)
  clear hK K
  refine norm_ (a' := ?_) ?_ ?_
  rotate_left
  · show Act.put _ (some 7) _ = _
    simp only [Act.put, List.setIfInBounds_toArray, List.set_cons_zero, List.set_cons_succ, i64_w, i32_w]
    rfl
  refine pure_ (i := 2) (N := some 8) (v := ?_) (a' := ?_) #[true, true, true, false, false, false, false, false, false, false, false, false, false, false, false, false, false] rfl rfl (by kernel_rfl) (fun _ _ _ h => h) (Or.inl ⟨by rfl, ?_⟩) ?_ ?_
  rotate_left
  · intro w'
    go_simp
    with_reducible rfl
  rotate_left
  · simp only [Act.put, List.setIfInBounds_toArray, List.set_cons_zero, List.set_cons_succ, i64_w, i32_w]
    rfl
  refine pure_ (i := 3) (N := some 9) (v := ?_) (a' := ?_) #[true, true, true, true, false, false, false, false, false, false, false, false, false, false, false, false, false] rfl rfl (by kernel_rfl) (fun _ _ _ h => h) (Or.inl ⟨by rfl, ?_⟩) ?_ ?_
  rotate_left
  · intro w'
    go_simp
    with_reducible rfl
  rotate_left
  · simp only [Act.put, List.setIfInBounds_toArray, List.set_cons_zero, List.set_cons_succ, i64_w, i32_w]
    rfl
  refine pure_ (i := 4) (N := some 10) (v := ?_) (a' := ?_) #[true, true, true, true, true, false, false, false, false, false, false, false, false, false, false, false, false] rfl rfl (by kernel_rfl) (fun _ _ _ h => h) (Or.inl ⟨by rfl, ?_⟩) ?_ ?_
  rotate_left
  · intro w'
    go_simp
    with_reducible rfl
  rotate_left
  · simp only [Act.put, List.setIfInBounds_toArray, List.set_cons_zero, List.set_cons_succ, i64_w, i32_w]
    rfl
  refine pure_ (i := 5) (N := some 11) (v := ?_) (a' := ?_) #[true, true, true, true, true, true, false, false, false, false, false, false, false, false, false, false, false] rfl rfl (by kernel_rfl) (fun _ _ _ h => h) (Or.inl ⟨by rfl, ?_⟩) ?_ ?_
  rotate_left
  · intro w'
    go_simp
    with_reducible rfl
  rotate_left
  · simp only [Act.put, List.setIfInBounds_toArray, List.set_cons_zero, List.set_cons_succ, i64_w, i32_w]
    rfl
  refine pure_ (i := 6) (N := some 12) (v := ?_) (a' := ?_) #[true, true, true, true, true, true, true, false, false, false, false, false, false, false, false, false, false] rfl rfl (by kernel_rfl) (fun _ _ _ h => h) (Or.inl ⟨by rfl, ?_⟩) ?_ ?_
  rotate_left
  · intro w'
    go_simp
    with_reducible rfl
  rotate_left
  · simp only [Act.put, List.setIfInBounds_toArray, List.set_cons_zero, List.set_cons_succ, i64_w, i32_w]
    rfl
  refine pure_ (i := 8) (N := some 14) (v := ?_) (a' := ?_) #[true, true, true, true, true, true, true, false, true, false, false, false, false, false, false, false, false] rfl rfl (by kernel_rfl) (fun _ _ _ h => h) (Or.inl ⟨by rfl, ?_⟩) ?_ ?_
  rotate_left
  · intro w'
    go_simp
    with_reducible rfl
  rotate_left
  · simp only [Act.put, List.setIfInBounds_toArray, List.set_cons_zero, List.set_cons_succ, i64_w, i32_w]
    rfl
  refine pure_ (i := 9) (N := some 15) (v := ?_) (a' := ?_) #[true, true, true, true, true, true, true, false, true, true, false, false, false, false, false, false, false] rfl rfl (by kernel_rfl) (fun _ _ _ h => h) (Or.inl ⟨by rfl, ?_⟩) ?_ ?_
  rotate_left
  · intro w'
    go_simp
    with_reducible rfl
  rotate_left
  · simp only [Act.put, List.setIfInBounds_toArray, List.set_cons_zero, List.set_cons_succ, i64_w, i32_w]
    rfl
  refine pure_ (i := 10) (N := some 16) (v := ?_) (a' := ?_) #[true, true, true, true, true, true, true, false, true, true, true, false, false, false, false, false, false] rfl rfl (by kernel_rfl) (fun _ _ _ h => h) (Or.inl ⟨by rfl, ?_⟩) ?_ ?_
  rotate_left
  · intro w'
    go_simp
    with_reducible rfl
  rotate_left
  · simp only [Act.put, List.setIfInBounds_toArray, List.set_cons_zero, List.set_cons_succ, i64_w, i32_w]
    rfl
  refine take_ (i := 7) (N := some 13) (v := ?_) (a' := ?_) #[true, true, true, true, true, true, true, true, true, true, true, false, false, false, false, false, false] rfl rfl (by kernel_rfl) (fun _ _ _ h => h) (Or.inl ⟨by rfl, ?_⟩) hHeld ?_ ?_
  rotate_left
  · rintro w' ⟨s0, s1, s2, s3, s4⟩
    go_simp
    with_reducible rfl
  rotate_left
  · simp only [Act.put, List.setIfInBounds_toArray, List.set_cons_zero, List.set_cons_succ, i64_w, i32_w]
    rfl
  refine take_ (i := 11) (N := some 17) (v := ?_) (a' := ?_) #[true, true, true, true, true, true, true, true, true, true, true, true, false, false, false, false, false] rfl rfl (by kernel_rfl) (fun _ _ _ h => h) (Or.inl ⟨by rfl, ?_⟩) hHeld ?_ ?_
  rotate_left
  · rintro w' ⟨s0, s1, s2, s3, s4⟩
    go_simp
    with_reducible rfl
  rotate_left
  · simp only [Act.put, List.setIfInBounds_toArray, List.set_cons_zero, List.set_cons_succ, i64_w, i32_w]
    rfl
  refine pure_ (i := 12) (N := some 18) (v := ?_) (a' := ?_) #[true, true, true, true, true, true, true, true, true, true, true, true, true, false, false, false, false] rfl rfl (by kernel_rfl) (fun _ _ _ h => h) (Or.inl ⟨by rfl, ?_⟩) ?_ ?_
  rotate_left
  · intro w'
    go_simp
    with_reducible rfl
  rotate_left
  · simp only [Act.put, List.setIfInBounds_toArray, List.set_cons_zero, List.set_cons_succ, i64_w, i32_w]
    rfl
  refine pure_ (i := 13) (N := some 19) (v := ?_) (a' := ?_) #[true, true, true, true, true, true, true, true, true, true, true, true, true, true, false, false, false] rfl rfl (by kernel_rfl) (fun _ _ _ h => h) (Or.inl ⟨by rfl, ?_⟩) ?_ ?_
  rotate_left
  · intro w'
    go_simp
    with_reducible rfl
  rotate_left
  · simp only [Act.put, List.setIfInBounds_toArray, List.set_cons_zero, List.set_cons_succ, i64_w, i32_w]
    rfl
  refine take_ (i := 14) (N := some 20) (v := ?_) (a' := ?_) #[true, true, true, true, true, true, true, true, true, true, true, true, true, true, true, false, false] rfl rfl (by kernel_rfl) (fun _ _ _ h => h) (Or.inl ⟨by rfl, ?_⟩) hHeld ?_ ?_
  rotate_left
  · rintro w' ⟨s0, s1, s2, s3, s4⟩
    go_simp
    with_reducible rfl
  rotate_left
  · simp only [Act.put, List.setIfInBounds_toArray, List.set_cons_zero, List.set_cons_succ, i64_w, i32_w]
    rfl
  refine pure_ (i := 15) (N := some 21) (v := ?_) (a' := ?_) #[true, true, true, true, true, true, true, true, true, true, true, true, true, true, true, true, false] rfl rfl (by kernel_rfl) (fun _ _ _ h => h) (Or.inl ⟨by rfl, ?_⟩) ?_ ?_
  rotate_left
  · intro w'
    go_simp
    with_reducible rfl
  rotate_left
  · simp only [Act.put, List.setIfInBounds_toArray, List.set_cons_zero, List.set_cons_succ, i64_w, i32_w]
    rfl
  refine pure_ (i := 16) (N := some 22) (v := ?_) (a' := ?_) #[true, true, true, true, true, true, true, true, true, true, true, true, true, true, true, true, true] rfl rfl (by kernel_rfl) (fun _ _ _ h => h) (Or.inl ⟨by rfl, ?_⟩) ?_ ?_
  rotate_left
  · intro w'
    go_simp
    with_reducible rfl
  rotate_left
  · simp only [Act.put, List.setIfInBounds_toArray, List.set_cons_zero, List.set_cons_succ, i64_w, i32_w]
    rfl
  refine done_ (by kernel_rfl) ?_
  have AR3 := Aside0.mk (AR1.out.drewN (1 + nd))
  go_wp2_with (first | (go_at_call 35; (with_reducible refine (register_walk w0 _ g (some ad) c l a HL.out HS.out HT.out HG.out AR3.out.rd none HQ.out).mono ?_); rintro e w2 ⟨rfl, hp, hf⟩; have AR4 := Aside0.mk (AR3.out.step hf hp); have v0 := (blk_cell AR4.out.box 0); have v1 := (blk_cell AR4.out.box 1); have v2 := (blk_cell AR4.out.box 2); have v3 := (blk_cell AR4.out.box 3); have v4 := (blk_cell AR4.out.box 4); have v5 := (blk_cell AR4.out.box 5); have v6 := (blk_cell AR4.out.box 6); have vf0 := blk_frozen AR4.out.box 0; have vf1 := blk_frozen AR4.out.box 1; have vf2 := blk_frozen AR4.out.box 2; have vf3 := blk_frozen AR4.out.box 3; have vf4 := blk_frozen AR4.out.box 4; have vf5 := blk_frozen AR4.out.box 5; have vf6 := blk_frozen AR4.out.box 6; simp only [aV, z32, z30, List.getElem?_toArray, List.getElem?_cons_zero, List.getElem?_cons_succ] at v0 v1 v2 v3 v4 v5 v6; clear hp hf) | (go_at_call 20; (with_reducible refine (is_walk w0 _ g (some ad) c l a a 0 40 hb0 (AR4.out.setx (y := (⟨2, 0, z30, (⟨#[]⟩ : ByteArray)⟩ : S32)) 0 (.int .u8 2) rfl).rd true HMK.out).mono ?_); rintro e w3 ⟨rfl, ⟨nd2, rfl⟩⟩; skip) | (go_at_call 38; (with_reducible refine (by_walk w0 _ g (some ad) c l a HL.out (by have := HA.out; have := HL.out; omega) HS.out HT.out HG.out (((AR4.out.setx (y := (⟨2, 0, z30, (⟨#[]⟩ : ByteArray)⟩ : S32)) 0 (.int .u8 2) rfl).drewN nd2).setx (y := (⟨3, 0, z30, (⟨#[]⟩ : ByteArray)⟩ : S32)) 0 (.int .u8 3) rfl).rd _ HO.out).mono ?_); rintro e w4 ⟨rfl, hf, a', hp, hq⟩; have AR8 := Aside0.mk ((((AR4.out.setx (y := (⟨2, 0, z30, (⟨#[]⟩ : ByteArray)⟩ : S32)) 0 (.int .u8 2) rfl).drewN nd2).setx (y := (⟨3, 0, z30, (⟨#[]⟩ : ByteArray)⟩ : S32)) 0 (.int .u8 3) rfl).step hf hp); have HQ8 := Aside0.mk hq; have v0 := (blk_cell AR8.out.box 0); have v1 := (blk_cell AR8.out.box 1); have v2 := (blk_cell AR8.out.box 2); have v3 := (blk_cell AR8.out.box 3); have v4 := (blk_cell AR8.out.box 4); have v5 := (blk_cell AR8.out.box 5); have v6 := (blk_cell AR8.out.box 6); have vf0 := blk_frozen AR8.out.box 0; have vf1 := blk_frozen AR8.out.box 1; have vf2 := blk_frozen AR8.out.box 2; have vf3 := blk_frozen AR8.out.box 3; have vf4 := blk_frozen AR8.out.box 4; have vf5 := blk_frozen AR8.out.box 5; have vf6 := blk_frozen AR8.out.box 6; simp only [aV, z32, z30, List.getElem?_toArray, List.getElem?_cons_zero, List.getElem?_cons_succ] at v0 v1 v2 v3 v4 v5 v6; clear hp hf hq))
  have AR9 := Aside0.mk (AR8.out.setx (y := (⟨3, (n : Int), z30, (⟨#[]⟩ : ByteArray)⟩ : S32)) 1 (.int .i64 (n : Int)) rfl)
  refine bodyPost_ret (results_ct rfl _ _ p 32 (aV (⟨3, (n : Int), z30, (⟨#[]⟩ : ByteArray)⟩ : S32)) (0, 0) _ rfl (AR9.out.box) Tryd.underlying32 rfl (by kernel_rfl)) rfl ?_
  exact ⟨rfl, AR9.out.fr, (HQ8.out rfl) ▸ AR9.out.rd⟩

set_option maxHeartbeats 8000000 in
set_option maxRecDepth 100000 in
theorem arg_perr (w0 W : World) (g : Nat) (A : Option Addr) (c : Nat) (l : List S53) (a : Nat) (hl : l.length ≤ 1000000) (ha : a ≤ l.length) (hs : ∀ x ∈ l, x.f1.size ≤ 1000000) (hT : Lib.TabIs Tryd.prog w0 "internal/strconv.uint64pow10" .u64 Lib.pow10Tab) (hD : LexW.LexD w0) (hM : ExW.ModsAt w0) (hG : LiW.RegsAt w0) (h : RD w0 W g A c l a) (t : S53) (ht : l[a]? = some t) (hk : ¬ t.f0 = 3) (hq : regAt l a = none) (hm : markB l a 40 = false) (s1 s2 : ByteArray) (n m er : Int) (nx : Nat) (hp : expr_Parse.f l (a : Int) = some (s1, s2, n, m, (nx : Int), er)) (he : er ≠ 0) :
    Calls Tryd.prog 22 #[.pointer (some ⟨g, 0, none⟩)] W fun e W' => e = .returned (.tuple #[.agg (aV (⟨2, 0, ⟨s1, s2, n, m⟩, (⟨#[]⟩ : ByteArray)⟩ : S32)), .int .i64 er]) ∧ FR W W' g ∧ ∃ a', RD w0 W' g A c l a' := by
  have HR := Aside0.mk h
  have HT := Aside0.mk hT
  have HD := Aside0.mk hD
  have HM := Aside0.mk hM
  have HG := Aside0.mk hG
  have HL := Aside0.mk hl
  have HS := Aside0.mk hs
  have hlt : a < l.length := (List.getElem?_eq_some_iff.1 ht).1
  have HTT := Aside0.mk ht
  have HE := Aside0.mk (show decide (l.length ≤ a) = false from decide_eq_false (by omega))
  have p0 := eq_true (show (0 : Int) ≤ (a : Int) by omega)
  have q0 := eq_true (show (a : Int) < (l.length : Int) by omega)
  obtain ⟨a1, e1⟩ : ∃ x, x = a + 1 := ⟨_, rfl⟩
  have hb1 : wrap64 ((a : Int) + 1) = (a1 : Int) := by unfold wrap64; omega
  have E1 := Aside0.mk e1
  have k0 : (t.f0 == 3) = false := beq_eq_false_iff_ne.2 hk
  have HQ := Aside0.mk hq
  have HMK := Aside0.mk hm
  have HP := Aside0.mk hp
  have HA := Aside0.mk ha
  have hb0 : wrap64 ((a : Int) + 0) = (a : Int) := by unfold wrap64; omega
  have r0 : (er == 0) = false := beq_eq_false_iff_ne.2 he
  have r1 : (er != 0) = true := bne_iff_ne.2 he
  clear he
  clear h hl ha hs hT hD hM hG hlt hk e1 ht hq hm hp
  go_enter Tryd.func22, Tryd.ntmps22
  go_wp2_with (first | ((with_reducible refine gate_dst (N := 2) rfl ?_); refine box_event ?hg (N := 2) ?hd (cs := #[.int .u8 0, .int .i64 0, .string (⟨#[]⟩ : ByteArray), .string (⟨#[]⟩ : ByteArray), .int .i64 0, .int .u8 0, .string (⟨#[]⟩ : ByteArray)]) (t := 32) ?hr ?_; (case hd => rfl); (case hg => rfl); (case hr => first | (go_simp; done) | (go_simp; rfl)); intro p hg w1 hbox hb; have AR1 : Aside0 (AR w0 W w1 g A c l a p z32) := ⟨⟨FR.of_below hb, by rw [hg]; exact Nat.le_refl _, HR.out.below hb, hbox, by rw [hg]; exact HR.out.bel.size, by rw [hg]; exact Nat.ne_of_lt (blk_lt HR.out.blk)⟩⟩; clear hb hbox hg))
  have c0 := AR1.out.rd.cell0
  have c1 := AR1.out.rd.cell1
  obtain ⟨ad, rfl, x0, x1, x2⟩ := AR1.out.rd.tok2 a t HTT.out
  refine start_ (n := 17) (S := fun w' => w'.cell? ⟨g, 0, none⟩ = some (.slice (some ad) l.length c) ∧ w'.cell? ⟨g, 1, none⟩ = some (.int .i64 (a : Int)) ∧ w'.cell? (ad.add (a * 3)) = some (.int .u8 t.f0) ∧ w'.cell? ⟨(ad.add (a * 3)).block, (ad.add (a * 3)).off + 1, none⟩ = some (.string t.f1) ∧ w'.cell? ⟨(ad.add (a * 3)).block, (ad.add (a * 3)).off + 2, none⟩ = some (.int .i64 t.f2)) (ds := []) #[false, false, false, false, false, false, false, false, false, false, false, false, false, false, false, false, false] (by kernel_rfl) rfl rfl ⟨c0, c1, x0, x1, x2⟩ (fun hHeld => ?_)
  refine pure_ (i := 0) (N := some 6) (v := ?_) (a' := ?_) #[true, false, false, false, false, false, false, false, false, false, false, false, false, false, false, false, false] rfl rfl (by kernel_rfl) (fun _ _ _ h => h) (Or.inl ⟨by rfl, ?_⟩) ?_ ?_
  rotate_left
  · intro w'
    go_simp
    with_reducible rfl
  rotate_left
  · simp only [Act.put, List.setIfInBounds_toArray, List.set_cons_zero, List.set_cons_succ, i64_w, i32_w]
    rfl
  refine one_ (i := 1) (N := some 7) #[true, true, false, false, false, false, false, false, false, false, false, false, false, false, false, false, false] rfl rfl (by kernel_rfl) (by decide) (fun K hK => ?_)
  refine goes_ Tryd.func15 (by kernel_rfl) rfl #[.pointer (some ⟨g, 0, none⟩)] (by rfl) rfl rfl (by simp only [List.map_toArray, List.map_cons, List.map_nil]; rfl) ?_
  with_reducible refine (end_walk w0 _ g (some ad) c l a AR1.out.rd.drew false HE.out).mono ?_
  rintro e w5 ⟨rfl, ⟨nd, rfl⟩⟩
  refine ⟨_, rfl, ?_⟩
  have AR2 := Aside0.mk (AR1.out.drew.drewN nd)
  refine hK.out _ _ ⟨hHeld.1, hHeld.2.1, hHeld.2.2.1, hHeld.2.2.2.1, hHeld.2.2.2.2⟩ (fun hHeld => ?_)
  clear hK K
  refine norm_ (a' := ?_) ?_ ?_
  rotate_left
  · show Act.put _ (some 7) _ = _
    simp only [Act.put, List.setIfInBounds_toArray, List.set_cons_zero, List.set_cons_succ, i64_w, i32_w]
    rfl
  refine pure_ (i := 2) (N := some 8) (v := ?_) (a' := ?_) #[true, true, true, false, false, false, false, false, false, false, false, false, false, false, false, false, false] rfl rfl (by kernel_rfl) (fun _ _ _ h => h) (Or.inl ⟨by rfl, ?_⟩) ?_ ?_
  rotate_left
  · intro w'
    go_simp
    with_reducible rfl
  rotate_left
  · simp only [Act.put, List.setIfInBounds_toArray, List.set_cons_zero, List.set_cons_succ, i64_w, i32_w]
    rfl
  refine pure_ (i := 3) (N := some 9) (v := ?_) (a' := ?_) #[true, true, true, true, false, false, false, false, false, false, false, false, false, false, false, false, false] rfl rfl (by kernel_rfl) (fun _ _ _ h => h) (Or.inl ⟨by rfl, ?_⟩) ?_ ?_
  rotate_left
  · intro w'
    go_simp
    with_reducible rfl
  rotate_left
  · simp only [Act.put, List.setIfInBounds_toArray, List.set_cons_zero, List.set_cons_succ, i64_w, i32_w]
    rfl
  refine pure_ (i := 4) (N := some 10) (v := ?_) (a' := ?_) #[true, true, true, true, true, false, false, false, false, false, false, false, false, false, false, false, false] rfl rfl (by kernel_rfl) (fun _ _ _ h => h) (Or.inl ⟨by rfl, ?_⟩) ?_ ?_
  rotate_left
  · intro w'
    go_simp
    with_reducible rfl
  rotate_left
  · simp only [Act.put, List.setIfInBounds_toArray, List.set_cons_zero, List.set_cons_succ, i64_w, i32_w]
    rfl
  refine pure_ (i := 5) (N := some 11) (v := ?_) (a' := ?_) #[true, true, true, true, true, true, false, false, false, false, false, false, false, false, false, false, false] rfl rfl (by kernel_rfl) (fun _ _ _ h => h) (Or.inl ⟨by rfl, ?_⟩) ?_ ?_
  rotate_left
  · intro w'
    go_simp
    with_reducible rfl
  rotate_left
  · simp only [Act.put, List.setIfInBounds_toArray, List.set_cons_zero, List.set_cons_succ, i64_w, i32_w]
    rfl
  refine pure_ (i := 6) (N := some 12) (v := ?_) (a' := ?_) #[true, true, true, true, true, true, true, false, false, false, false, false, false, false, false, false, false] rfl rfl (by kernel_rfl) (fun _ _ _ h => h) (Or.inl ⟨by rfl, ?_⟩) ?_ ?_
  rotate_left
  · intro w'
    go_simp
    with_reducible rfl
  rotate_left
  · simp only [Act.put, List.setIfInBounds_toArray, List.set_cons_zero, List.set_cons_succ, i64_w, i32_w]
    rfl
  refine pure_ (i := 8) (N := some 14) (v := ?_) (a' := ?_) #[true, true, true, true, true, true, true, false, true, false, false, false, false, false, false, false, false] rfl rfl (by kernel_rfl) (fun _ _ _ h => h) (Or.inl ⟨by rfl, ?_⟩) ?_ ?_
  rotate_left
  · intro w'
    go_simp
    with_reducible rfl
  rotate_left
  · simp only [Act.put, List.setIfInBounds_toArray, List.set_cons_zero, List.set_cons_succ, i64_w, i32_w]
    rfl
  refine pure_ (i := 9) (N := some 15) (v := ?_) (a' := ?_) #[true, true, true, true, true, true, true, false, true, true, false, false, false, false, false, false, false] rfl rfl (by kernel_rfl) (fun _ _ _ h => h) (Or.inl ⟨by rfl, ?_⟩) ?_ ?_
  rotate_left
  · intro w'
    go_simp
    with_reducible rfl
  rotate_left
  · simp only [Act.put, List.setIfInBounds_toArray, List.set_cons_zero, List.set_cons_succ, i64_w, i32_w]
    rfl
  refine pure_ (i := 10) (N := some 16) (v := ?_) (a' := ?_) #[true, true, true, true, true, true, true, false, true, true, true, false, false, false, false, false, false] rfl rfl (by kernel_rfl) (fun _ _ _ h => h) (Or.inl ⟨by rfl, ?_⟩) ?_ ?_
  rotate_left
  · intro w'
    go_simp
    with_reducible rfl
  rotate_left
  · simp only [Act.put, List.setIfInBounds_toArray, List.set_cons_zero, List.set_cons_succ, i64_w, i32_w]
    rfl
  refine take_ (i := 7) (N := some 13) (v := ?_) (a' := ?_) #[true, true, true, true, true, true, true, true, true, true, true, false, false, false, false, false, false] rfl rfl (by kernel_rfl) (fun _ _ _ h => h) (Or.inl ⟨by rfl, ?_⟩) hHeld ?_ ?_
  rotate_left
  · rintro w' ⟨s0, s1, s2, s3, s4⟩
    go_simp
    with_reducible rfl
  rotate_left
  · simp only [Act.put, List.setIfInBounds_toArray, List.set_cons_zero, List.set_cons_succ, i64_w, i32_w]
    rfl
  refine take_ (i := 11) (N := some 17) (v := ?_) (a' := ?_) #[true, true, true, true, true, true, true, true, true, true, true, true, false, false, false, false, false] rfl rfl (by kernel_rfl) (fun _ _ _ h => h) (Or.inl ⟨by rfl, ?_⟩) hHeld ?_ ?_
  rotate_left
  · rintro w' ⟨s0, s1, s2, s3, s4⟩
    go_simp
    with_reducible rfl
  rotate_left
  · simp only [Act.put, List.setIfInBounds_toArray, List.set_cons_zero, List.set_cons_succ, i64_w, i32_w]
    rfl
  refine pure_ (i := 12) (N := some 18) (v := ?_) (a' := ?_) #[true, true, true, true, true, true, true, true, true, true, true, true, true, false, false, false, false] rfl rfl (by kernel_rfl) (fun _ _ _ h => h) (Or.inl ⟨by rfl, ?_⟩) ?_ ?_
  rotate_left
  · intro w'
    go_simp
    with_reducible rfl
  rotate_left
  · simp only [Act.put, List.setIfInBounds_toArray, List.set_cons_zero, List.set_cons_succ, i64_w, i32_w]
    rfl
  refine pure_ (i := 13) (N := some 19) (v := ?_) (a' := ?_) #[true, true, true, true, true, true, true, true, true, true, true, true, true, true, false, false, false] rfl rfl (by kernel_rfl) (fun _ _ _ h => h) (Or.inl ⟨by rfl, ?_⟩) ?_ ?_
  rotate_left
  · intro w'
    go_simp
    with_reducible rfl
  rotate_left
  · simp only [Act.put, List.setIfInBounds_toArray, List.set_cons_zero, List.set_cons_succ, i64_w, i32_w]
    rfl
  refine take_ (i := 14) (N := some 20) (v := ?_) (a' := ?_) #[true, true, true, true, true, true, true, true, true, true, true, true, true, true, true, false, false] rfl rfl (by kernel_rfl) (fun _ _ _ h => h) (Or.inl ⟨by rfl, ?_⟩) hHeld ?_ ?_
  rotate_left
  · rintro w' ⟨s0, s1, s2, s3, s4⟩
    go_simp
    with_reducible rfl
  rotate_left
  · simp only [Act.put, List.setIfInBounds_toArray, List.set_cons_zero, List.set_cons_succ, i64_w, i32_w]
    rfl
  refine pure_ (i := 15) (N := some 21) (v := ?_) (a' := ?_) #[true, true, true, true, true, true, true, true, true, true, true, true, true, true, true, true, false] rfl rfl (by kernel_rfl) (fun _ _ _ h => h) (Or.inl ⟨by rfl, ?_⟩) ?_ ?_
  rotate_left
  · intro w'
    go_simp
    with_reducible rfl
  rotate_left
  · simp only [Act.put, List.setIfInBounds_toArray, List.set_cons_zero, List.set_cons_succ, i64_w, i32_w]
    rfl
  refine pure_ (i := 16) (N := some 22) (v := ?_) (a' := ?_) #[true, true, true, true, true, true, true, true, true, true, true, true, true, true, true, true, true] rfl rfl (by kernel_rfl) (fun _ _ _ h => h) (Or.inl ⟨by rfl, ?_⟩) ?_ ?_
  rotate_left
  · intro w'
    go_simp
    with_reducible rfl
  rotate_left
  · simp only [Act.put, List.setIfInBounds_toArray, List.set_cons_zero, List.set_cons_succ, i64_w, i32_w]
    rfl
  refine done_ (by kernel_rfl) ?_
  have AR3 := Aside0.mk (AR1.out.drewN (1 + nd))
  go_wp2_with (first | (go_at_call 35; (with_reducible refine (register_walk w0 _ g (some ad) c l a HL.out HS.out HT.out HG.out AR3.out.rd none HQ.out).mono ?_); rintro e w2 ⟨rfl, hp, hf⟩; have AR4 := Aside0.mk (AR3.out.step hf hp); have v0 := (blk_cell AR4.out.box 0); have v1 := (blk_cell AR4.out.box 1); have v2 := (blk_cell AR4.out.box 2); have v3 := (blk_cell AR4.out.box 3); have v4 := (blk_cell AR4.out.box 4); have v5 := (blk_cell AR4.out.box 5); have v6 := (blk_cell AR4.out.box 6); have vf0 := blk_frozen AR4.out.box 0; have vf1 := blk_frozen AR4.out.box 1; have vf2 := blk_frozen AR4.out.box 2; have vf3 := blk_frozen AR4.out.box 3; have vf4 := blk_frozen AR4.out.box 4; have vf5 := blk_frozen AR4.out.box 5; have vf6 := blk_frozen AR4.out.box 6; simp only [aV, z32, z30, List.getElem?_toArray, List.getElem?_cons_zero, List.getElem?_cons_succ] at v0 v1 v2 v3 v4 v5 v6; clear hp hf) | (go_at_call 20; (with_reducible refine (is_walk w0 _ g (some ad) c l a a 0 40 hb0 (AR4.out.setx (y := (⟨2, 0, z30, (⟨#[]⟩ : ByteArray)⟩ : S32)) 0 (.int .u8 2) rfl).rd false HMK.out).mono ?_); rintro e w3 ⟨rfl, ⟨nd2, rfl⟩⟩; skip))
  obtain ⟨w5, hw5, AR7⟩ : ∃ V, ((w2.setCell ⟨p, 0, none⟩ (.int .u8 2)).drewN nd2) = V ∧ Aside0 (AR w0 W V g (some ad) c l a p (⟨2, 0, z30, (⟨#[]⟩ : ByteArray)⟩ : S32)) := ⟨_, rfl, ⟨(AR4.out.setx (y := (⟨2, 0, z30, (⟨#[]⟩ : ByteArray)⟩ : S32)) 0 (.int .u8 2) rfl).drewN nd2⟩⟩
  rw [hw5]
  clear hw5 AR1 AR2 AR3 AR4 c0 c1 x0 x1 x2 v0 v1 v2 v3 v4 v5 v6 vf0 vf1 vf2 vf3 vf4 vf5 vf6
  have g0 := AR7.out.rd.cell0
  have g1 := AR7.out.rd.cell1
  refine start_ (n := 20) (S := fun w' => w'.cell? ⟨g, 0, none⟩ = some (.slice (some ad) l.length c) ∧ w'.cell? ⟨g, 1, none⟩ = some (.int .i64 (a : Int))) (ds := [15, 18]) #[false, false, false, false, false, false, false, false, false, false, false, false, false, false, false, false, false, false, false, false] (by kernel_rfl) rfl rfl ⟨g0, g1⟩ (fun hHeld => ?_)
  refine pure_ (i := 0) (N := some 55) (v := ?_) (a' := ?_) #[true, false, false, false, false, false, false, false, false, false, false, false, false, false, false, false, false, false, false, false] rfl rfl (by kernel_rfl) (fun _ _ _ h => h) (Or.inl ⟨by rfl, ?_⟩) ?_ ?_
  rotate_left
  · intro w'
    go_simp
    with_reducible rfl
  rotate_left
  · simp only [Act.put, List.setIfInBounds_toArray, List.set_cons_zero, List.set_cons_succ, i64_w, i32_w]
    rfl
  refine pure_ (i := 1) (N := some 56) (v := ?_) (a' := ?_) #[true, true, false, false, false, false, false, false, false, false, false, false, false, false, false, false, false, false, false, false] rfl rfl (by kernel_rfl) (fun _ _ _ h => h) (Or.inl ⟨by rfl, ?_⟩) ?_ ?_
  rotate_left
  · intro w'
    go_simp
    with_reducible rfl
  rotate_left
  · simp only [Act.put, List.setIfInBounds_toArray, List.set_cons_zero, List.set_cons_succ, i64_w, i32_w]
    rfl
  refine pure_ (i := 2) (N := some 57) (v := ?_) (a' := ?_) #[true, true, true, false, false, false, false, false, false, false, false, false, false, false, false, false, false, false, false, false] rfl rfl (by kernel_rfl) (fun _ _ _ h => h) (Or.inl ⟨by rfl, ?_⟩) ?_ ?_
  rotate_left
  · intro w'
    go_simp
    with_reducible rfl
  rotate_left
  · simp only [Act.put, List.setIfInBounds_toArray, List.set_cons_zero, List.set_cons_succ, i64_w, i32_w]
    rfl
  refine pure_ (i := 3) (N := some 58) (v := ?_) (a' := ?_) #[true, true, true, true, false, false, false, false, false, false, false, false, false, false, false, false, false, false, false, false] rfl rfl (by kernel_rfl) (fun _ _ _ h => h) (Or.inl ⟨by rfl, ?_⟩) ?_ ?_
  rotate_left
  · intro w'
    go_simp
    with_reducible rfl
  rotate_left
  · simp only [Act.put, List.setIfInBounds_toArray, List.set_cons_zero, List.set_cons_succ, i64_w, i32_w]
    rfl
  refine pure_ (i := 5) (N := some 60) (v := ?_) (a' := ?_) #[true, true, true, true, false, true, false, false, false, false, false, false, false, false, false, false, false, false, false, false] rfl rfl (by kernel_rfl) (fun _ _ _ h => h) (Or.inl ⟨by rfl, ?_⟩) ?_ ?_
  rotate_left
  · intro w'
    go_simp
    with_reducible rfl
  rotate_left
  · simp only [Act.put, List.setIfInBounds_toArray, List.set_cons_zero, List.set_cons_succ, i64_w, i32_w]
    rfl
  refine pure_ (i := 6) (N := some 61) (v := ?_) (a' := ?_) #[true, true, true, true, false, true, true, false, false, false, false, false, false, false, false, false, false, false, false, false] rfl rfl (by kernel_rfl) (fun _ _ _ h => h) (Or.inl ⟨by rfl, ?_⟩) ?_ ?_
  rotate_left
  · intro w'
    go_simp
    with_reducible rfl
  rotate_left
  · simp only [Act.put, List.setIfInBounds_toArray, List.set_cons_zero, List.set_cons_succ, i64_w, i32_w]
    rfl
  refine pure_ (i := 7) (N := some 62) (v := ?_) (a' := ?_) #[true, true, true, true, false, true, true, true, false, false, false, false, false, false, false, false, false, false, false, false] rfl rfl (by kernel_rfl) (fun _ _ _ h => h) (Or.inl ⟨by rfl, ?_⟩) ?_ ?_
  rotate_left
  · intro w'
    go_simp
    with_reducible rfl
  rotate_left
  · simp only [Act.put, List.setIfInBounds_toArray, List.set_cons_zero, List.set_cons_succ, i64_w, i32_w]
    rfl
  refine take_ (i := 4) (N := some 59) (v := ?_) (a' := ?_) #[true, true, true, true, true, true, true, true, false, false, false, false, false, false, false, false, false, false, false, false] rfl rfl (by kernel_rfl) (fun _ _ _ h => h) (Or.inl ⟨by rfl, ?_⟩) hHeld ?_ ?_
  rotate_left
  · rintro w' ⟨s0, s1⟩
    go_simp
    with_reducible rfl
  rotate_left
  · simp only [Act.put, List.setIfInBounds_toArray, List.set_cons_zero, List.set_cons_succ, i64_w, i32_w]
    rfl
  refine take_ (i := 8) (N := some 63) (v := ?_) (a' := ?_) #[true, true, true, true, true, true, true, true, true, false, false, false, false, false, false, false, false, false, false, false] rfl rfl (by kernel_rfl) (fun _ _ _ h => h) (Or.inl ⟨by rfl, ?_⟩) hHeld ?_ ?_
  rotate_left
  · rintro w' ⟨s0, s1⟩
    go_simp
    with_reducible rfl
  rotate_left
  · simp only [Act.put, List.setIfInBounds_toArray, List.set_cons_zero, List.set_cons_succ, i64_w, i32_w]
    rfl
  refine one_ (i := 9) (N := some 64) #[true, true, true, true, true, true, true, true, true, true, false, false, false, false, false, false, false, false, false, false] rfl rfl (by kernel_rfl) (by decide) (fun K hK => ?_)
  have hT9 := Lib.tabBelow_of_tabIs HT.out _ AR7.out.drew.rd.bel
  refine goes_ Tryd.func36 (by kernel_rfl) rfl #[.slice (some ad) l.length c, .int .i64 (a : Int)] (by rfl) rfl rfl (by simp only [List.map_toArray, List.map_cons, List.map_nil]; rfl) ?_
  with_reducible refine (expr_Parse.calls (some ad) c l (a : Int) s1 s2 n m (nx : Int) er _ (Kd.C_below AR7.out.rd.row AR7.out.drew.rd.bel) AR7.out.rd.cap hT9 (HD.out.below AR7.out.drew.rd.bel) (HM.out.below AR7.out.drew.rd.bel) HP.out).mono ?_
  rintro e w6 ⟨rfl, hb⟩
  refine ⟨_, rfl, ?_⟩
  have AR8 := Aside0.mk (AR7.out.drew.below hb)
  refine hK.out _ _ ⟨((hb.cell (World.block_lt_of_cell? _ _ hHeld.1)).trans hHeld.1), ((hb.cell (World.block_lt_of_cell? _ _ hHeld.2)).trans hHeld.2)⟩ (fun hHeld => ?_)
  clear hK K
  refine norm_ (a' := ?_) ?_ ?_
  rotate_left
  · show Act.put _ (some 64) _ = _
    simp only [Act.put, List.setIfInBounds_toArray, List.set_cons_zero, List.set_cons_succ, i64_w, i32_w]
    rfl
  refine pure_ (i := 10) (N := some 54) (v := ?_) (a' := ?_) #[true, true, true, true, true, true, true, true, true, true, true, false, false, false, false, false, false, false, false, false] rfl rfl (by kernel_rfl) (fun _ _ _ h => h) (Or.inl ⟨by rfl, ?_⟩) ?_ ?_
  rotate_left
  · intro w'
    go_simp
    with_reducible rfl
  rotate_left
  · simp only [Act.put, List.setIfInBounds_toArray, List.set_cons_zero, List.set_cons_succ, i64_w, i32_w]
    rfl
  refine pure_ (i := 11) (N := some 65) (v := ?_) (a' := ?_) #[true, true, true, true, true, true, true, true, true, true, true, true, false, false, false, false, false, false, false, false] rfl rfl (by kernel_rfl) (fun _ _ _ h => h) (Or.inl ⟨by rfl, ?_⟩) ?_ ?_
  rotate_left
  · intro w'
    go_simp
    with_reducible rfl
  rotate_left
  · simp only [Act.put, List.setIfInBounds_toArray, List.set_cons_zero, List.set_cons_succ, i64_w, i32_w]
    rfl
  refine pure_ (i := 12) (N := some 66) (v := ?_) (a' := ?_) #[true, true, true, true, true, true, true, true, true, true, true, true, true, false, false, false, false, false, false, false] rfl rfl (by kernel_rfl) (fun _ _ _ h => h) (Or.inl ⟨by rfl, ?_⟩) ?_ ?_
  rotate_left
  · intro w'
    go_simp
    with_reducible rfl
  rotate_left
  · simp only [Act.put, List.setIfInBounds_toArray, List.set_cons_zero, List.set_cons_succ, i64_w, i32_w]
    rfl
  refine pure_ (i := 13) (N := some 67) (v := ?_) (a' := ?_) #[true, true, true, true, true, true, true, true, true, true, true, true, true, true, false, false, false, false, false, false] rfl rfl (by kernel_rfl) (fun _ _ _ h => h) (Or.inl ⟨by rfl, ?_⟩) ?_ ?_
  rotate_left
  · intro w'
    go_simp
    with_reducible rfl
  rotate_left
  · simp only [Act.put, List.setIfInBounds_toArray, List.set_cons_zero, List.set_cons_succ, i64_w, i32_w]
    rfl
  refine pure_ (i := 14) (N := some 68) (v := ?_) (a' := ?_) #[true, true, true, true, true, true, true, true, true, true, true, true, true, true, true, false, false, false, false, false] rfl rfl (by kernel_rfl) (fun _ _ _ h => h) (Or.inl ⟨by rfl, ?_⟩) ?_ ?_
  rotate_left
  · intro w'
    go_simp
    with_reducible rfl
  rotate_left
  · simp only [Act.put, List.setIfInBounds_toArray, List.set_cons_zero, List.set_cons_succ, i64_w, i32_w]
    rfl
  refine last_ (i := 15) (N := none) #[true, true, true, true, true, true, true, true, true, true, true, true, true, true, true, true, false, false, false, false] rfl rfl (by kernel_rfl) (by decide) (fun K hK => ?_)
  have v0 := (blk_cell AR8.out.box 0)
  have v1 := (blk_cell AR8.out.box 1)
  have v2 := (blk_cell AR8.out.box 2)
  have v3 := (blk_cell AR8.out.box 3)
  have v4 := (blk_cell AR8.out.box 4)
  have v5 := (blk_cell AR8.out.box 5)
  have v6 := (blk_cell AR8.out.box 6)
  have vf0 := blk_frozen AR8.out.box 0
  have vf1 := blk_frozen AR8.out.box 1
  have vf2 := blk_frozen AR8.out.box 2
  have vf3 := blk_frozen AR8.out.box 3
  have vf4 := blk_frozen AR8.out.box 4
  have vf5 := blk_frozen AR8.out.box 5
  have vf6 := blk_frozen AR8.out.box 6
  simp only [aV, z32, z30, List.getElem?_toArray, List.getElem?_cons_zero, List.getElem?_cons_succ] at v0 v1 v2 v3 v4 v5 v6
  refine skip_ (w1 := ?_) (by rfl) rfl ?_ ?_
  rotate_left
  · go_simp
    rfl
  refine hK.out _ _ ?_
  clear hK K
  refine pure_ (i := 16) (N := some 69) (v := ?_) (a' := ?_) #[true, true, true, true, true, true, true, true, true, true, true, true, true, true, true, true, true, false, false, false] rfl rfl (by kernel_rfl) (fun _ _ _ h => h) (Or.inl ⟨by rfl, ?_⟩) ?_ ?_
  rotate_left
  · intro w'
    go_simp
    with_reducible rfl
  rotate_left
  · simp only [Act.put, List.setIfInBounds_toArray, List.set_cons_zero, List.set_cons_succ, i64_w, i32_w]
    rfl
  refine pure_ (i := 17) (N := some 70) (v := ?_) (a' := ?_) #[true, true, true, true, true, true, true, true, true, true, true, true, true, true, true, true, true, true, false, false] rfl rfl (by kernel_rfl) (fun _ _ _ h => h) (Or.inl ⟨by rfl, ?_⟩) ?_ ?_
  rotate_left
  · intro w'
    go_simp
    with_reducible rfl
  rotate_left
  · simp only [Act.put, List.setIfInBounds_toArray, List.set_cons_zero, List.set_cons_succ, i64_w, i32_w]
    rfl
  refine last_ (i := 18) (N := none) #[true, true, true, true, true, true, true, true, true, true, true, true, true, true, true, true, true, true, true, false] rfl rfl (by kernel_rfl) (by decide) (fun K hK => ?_)
  have y1 := AR8.out.rd.cell1
  have yf := blk_frozen AR8.out.rd.blk 1
  have ng : g ≠ p := AR8.out.ne
  have ng2 : p ≠ g := ng.symm
  refine skip_ (w1 := ?_) (by rfl) rfl ?_ ?_
  rotate_left
  · go_simp
    rfl
  refine hK.out _ _ ?_
  clear hK K
  refine pure_ (i := 19) (N := some 3) (v := ?_) (a' := ?_) #[true, true, true, true, true, true, true, true, true, true, true, true, true, true, true, true, true, true, true, true] rfl rfl (by kernel_rfl) (fun _ _ _ h => h) (Or.inl ⟨by rfl, ?_⟩) ?_ ?_
  rotate_left
  · intro w'
    go_simp
    with_reducible rfl
  rotate_left
  · simp only [Act.put, List.setIfInBounds_toArray, List.set_cons_zero, List.set_cons_succ, i64_w, i32_w]
    rfl
  refine done_ (by kernel_rfl) ?_
  obtain ⟨w9, hw9, AR9⟩ : ∃ V, (((((w6.setCell ⟨p, 2, none⟩ (.string s1)).setCell ⟨p, 3, none⟩ (.string s2)).setCell ⟨p, 4, none⟩ (.int .i64 n)).setCell ⟨p, 5, none⟩ (.int .u8 m)).setCell ⟨g, 1, none⟩ (.int .i64 (nx : Int))) = V ∧ Aside0 (AR w0 W V g (some ad) c l nx p (⟨2, 0, ⟨s1, s2, n, m⟩, (⟨#[]⟩ : ByteArray)⟩ : S32)) := ⟨_, rfl, ⟨((((AR8.out.setx (y := ⟨2, 0, ⟨s1, (⟨#[]⟩ : ByteArray), 0, 0⟩, (⟨#[]⟩ : ByteArray)⟩) 2 (.string s1) rfl).setx (y := ⟨2, 0, ⟨s1, s2, 0, 0⟩, (⟨#[]⟩ : ByteArray)⟩) 3 (.string s2) rfl).setx (y := ⟨2, 0, ⟨s1, s2, n, 0⟩, (⟨#[]⟩ : ByteArray)⟩) 4 (.int .i64 n) rfl).setx (y := (⟨2, 0, ⟨s1, s2, n, m⟩, (⟨#[]⟩ : ByteArray)⟩ : S32)) 5 (.int .u8 m) rfl).seti nx⟩⟩
  rw [hw9]
  clear hw9 AR7 AR8 g0 g1
  go_wp2
  refine bodyPost_ret (results_ct rfl _ _ p 32 (aV (⟨2, 0, ⟨s1, s2, n, m⟩, (⟨#[]⟩ : ByteArray)⟩ : S32)) (0, 0) _ rfl (AR9.out.box) Tryd.underlying32 rfl (by kernel_rfl)) rfl ?_
  exact ⟨rfl, AR9.out.fr, _, AR9.out.rd⟩

set_option maxHeartbeats 8000000 in
set_option maxRecDepth 100000 in
theorem arg_psum (w0 W : World) (g : Nat) (A : Option Addr) (c : Nat) (l : List S53) (a : Nat) (hl : l.length ≤ 1000000) (ha : a ≤ l.length) (hs : ∀ x ∈ l, x.f1.size ≤ 1000000) (hT : Lib.TabIs Tryd.prog w0 "internal/strconv.uint64pow10" .u64 Lib.pow10Tab) (hD : LexW.LexD w0) (hM : ExW.ModsAt w0) (hG : LiW.RegsAt w0) (h : RD w0 W g A c l a) (t : S53) (ht : l[a]? = some t) (hk : ¬ t.f0 = 3) (hq : regAt l a = none) (hm : markB l a 40 = false) (s1 s2 : ByteArray) (n m er : Int) (nx : Nat) (hp : expr_Parse.f l (a : Int) = some (s1, s2, n, m, (nx : Int), er)) (he : er = 0) (hsum : line_sum.f s1 s2 n m = some false) :
    Calls Tryd.prog 22 #[.pointer (some ⟨g, 0, none⟩)] W fun e W' => e = .returned (.tuple #[.agg (aV (⟨2, 0, ⟨s1, s2, n, m⟩, (⟨#[]⟩ : ByteArray)⟩ : S32)), .int .i64 160]) ∧ FR W W' g ∧ ∃ a', RD w0 W' g A c l a' := by
  have HR := Aside0.mk h
  have HT := Aside0.mk hT
  have HD := Aside0.mk hD
  have HM := Aside0.mk hM
  have HG := Aside0.mk hG
  have HL := Aside0.mk hl
  have HS := Aside0.mk hs
  have hlt : a < l.length := (List.getElem?_eq_some_iff.1 ht).1
  have HTT := Aside0.mk ht
  have HE := Aside0.mk (show decide (l.length ≤ a) = false from decide_eq_false (by omega))
  have p0 := eq_true (show (0 : Int) ≤ (a : Int) by omega)
  have q0 := eq_true (show (a : Int) < (l.length : Int) by omega)
  obtain ⟨a1, e1⟩ : ∃ x, x = a + 1 := ⟨_, rfl⟩
  have hb1 : wrap64 ((a : Int) + 1) = (a1 : Int) := by unfold wrap64; omega
  have E1 := Aside0.mk e1
  have k0 : (t.f0 == 3) = false := beq_eq_false_iff_ne.2 hk
  have HQ := Aside0.mk hq
  have HMK := Aside0.mk hm
  have HP := Aside0.mk hp
  have HA := Aside0.mk ha
  have hb0 : wrap64 ((a : Int) + 0) = (a : Int) := by unfold wrap64; omega
  have r0 : (er == 0) = true := beq_iff_eq.2 he
  have r1 : (er != 0) = false := bne_eq_false_iff_eq.2 he
  have HER := Aside0.mk he
  have HSUM := Aside0.mk hsum
  clear he hsum
  clear h hl ha hs hT hD hM hG hlt hk e1 ht hq hm hp
  go_enter Tryd.func22, Tryd.ntmps22
  go_wp2_with (first | ((with_reducible refine gate_dst (N := 2) rfl ?_); refine box_event ?hg (N := 2) ?hd (cs := #[.int .u8 0, .int .i64 0, .string (⟨#[]⟩ : ByteArray), .string (⟨#[]⟩ : ByteArray), .int .i64 0, .int .u8 0, .string (⟨#[]⟩ : ByteArray)]) (t := 32) ?hr ?_; (case hd => rfl); (case hg => rfl); (case hr => first | (go_simp; done) | (go_simp; rfl)); intro p hg w1 hbox hb; have AR1 : Aside0 (AR w0 W w1 g A c l a p z32) := ⟨⟨FR.of_below hb, by rw [hg]; exact Nat.le_refl _, HR.out.below hb, hbox, by rw [hg]; exact HR.out.bel.size, by rw [hg]; exact Nat.ne_of_lt (blk_lt HR.out.blk)⟩⟩; clear hb hbox hg))
  have c0 := AR1.out.rd.cell0
  have c1 := AR1.out.rd.cell1
  obtain ⟨ad, rfl, x0, x1, x2⟩ := AR1.out.rd.tok2 a t HTT.out
  refine start_ (n := 17) (S := fun w' => w'.cell? ⟨g, 0, none⟩ = some (.slice (some ad) l.length c) ∧ w'.cell? ⟨g, 1, none⟩ = some (.int .i64 (a : Int)) ∧ w'.cell? (ad.add (a * 3)) = some (.int .u8 t.f0) ∧ w'.cell? ⟨(ad.add (a * 3)).block, (ad.add (a * 3)).off + 1, none⟩ = some (.string t.f1) ∧ w'.cell? ⟨(ad.add (a * 3)).block, (ad.add (a * 3)).off + 2, none⟩ = some (.int .i64 t.f2)) (ds := []) #[false, false, false, false, false, false, false, false, false, false, false, false, false, false, false, false, false] (by kernel_rfl) rfl rfl ⟨c0, c1, x0, x1, x2⟩ (fun hHeld => ?_)
  refine pure_ (i := 0) (N := some 6) (v := ?_) (a' := ?_) #[true, false, false, false, false, false, false, false, false, false, false, false, false, false, false, false, false] rfl rfl (by kernel_rfl) (fun _ _ _ h => h) (Or.inl ⟨by rfl, ?_⟩) ?_ ?_
  rotate_left
  · intro w'
    go_simp
    with_reducible rfl
  rotate_left
  · simp only [Act.put, List.setIfInBounds_toArray, List.set_cons_zero, List.set_cons_succ, i64_w, i32_w]
    rfl
  refine one_ (i := 1) (N := some 7) #[true, true, false, false, false, false, false, false, false, false, false, false, false, false, false, false, false] rfl rfl (by kernel_rfl) (by decide) (fun K hK => ?_)
  refine goes_ Tryd.func15 (by kernel_rfl) rfl #[.pointer (some ⟨g, 0, none⟩)] (by rfl) rfl rfl (by simp only [List.map_toArray, List.map_cons, List.map_nil]; rfl) ?_
  with_reducible refine (end_walk w0 _ g (some ad) c l a AR1.out.rd.drew false HE.out).mono ?_
  rintro e w5 ⟨rfl, ⟨nd, rfl⟩⟩
  refine ⟨_, rfl, ?_⟩
  have AR2 := Aside0.mk (AR1.out.drew.drewN nd)
  refine hK.out _ _ ⟨hHeld.1, hHeld.2.1, hHeld.2.2.1, hHeld.2.2.2.1, hHeld.2.2.2.2⟩ (fun hHeld => ?_)
  clear hK K
  refine norm_ (a' := ?_) ?_ ?_
  rotate_left
  · show Act.put _ (some 7) _ = _
    simp only [Act.put, List.setIfInBounds_toArray, List.set_cons_zero, List.set_cons_succ, i64_w, i32_w]
    rfl
  refine pure_ (i := 2) (N := some 8) (v := ?_) (a' := ?_) #[true, true, true, false, false, false, false, false, false, false, false, false, false, false, false, false, false] rfl rfl (by kernel_rfl) (fun _ _ _ h => h) (Or.inl ⟨by rfl, ?_⟩) ?_ ?_
  rotate_left
  · intro w'
    go_simp
    with_reducible rfl
  rotate_left
  · simp only [Act.put, List.setIfInBounds_toArray, List.set_cons_zero, List.set_cons_succ, i64_w, i32_w]
    rfl
  refine pure_ (i := 3) (N := some 9) (v := ?_) (a' := ?_) #[true, true, true, true, false, false, false, false, false, false, false, false, false, false, false, false, false] rfl rfl (by kernel_rfl) (fun _ _ _ h => h) (Or.inl ⟨by rfl, ?_⟩) ?_ ?_
  rotate_left
  · intro w'
    go_simp
    with_reducible rfl
  rotate_left
  · simp only [Act.put, List.setIfInBounds_toArray, List.set_cons_zero, List.set_cons_succ, i64_w, i32_w]
    rfl
  refine pure_ (i := 4) (N := some 10) (v := ?_) (a' := ?_) #[true, true, true, true, true, false, false, false, false, false, false, false, false, false, false, false, false] rfl rfl (by kernel_rfl) (fun _ _ _ h => h) (Or.inl ⟨by rfl, ?_⟩) ?_ ?_
  rotate_left
  · intro w'
    go_simp
    with_reducible rfl
  rotate_left
  · simp only [Act.put, List.setIfInBounds_toArray, List.set_cons_zero, List.set_cons_succ, i64_w, i32_w]
    rfl
  refine pure_ (i := 5) (N := some 11) (v := ?_) (a' := ?_) #[true, true, true, true, true, true, false, false, false, false, false, false, false, false, false, false, false] rfl rfl (by kernel_rfl) (fun _ _ _ h => h) (Or.inl ⟨by rfl, ?_⟩) ?_ ?_
  rotate_left
  · intro w'
    go_simp
    with_reducible rfl
  rotate_left
  · simp only [Act.put, List.setIfInBounds_toArray, List.set_cons_zero, List.set_cons_succ, i64_w, i32_w]
    rfl
  refine pure_ (i := 6) (N := some 12) (v := ?_) (a' := ?_) #[true, true, true, true, true, true, true, false, false, false, false, false, false, false, false, false, false] rfl rfl (by kernel_rfl) (fun _ _ _ h => h) (Or.inl ⟨by rfl, ?_⟩) ?_ ?_
  rotate_left
  · intro w'
    go_simp
    with_reducible rfl
  rotate_left
  · simp only [Act.put, List.setIfInBounds_toArray, List.set_cons_zero, List.set_cons_succ, i64_w, i32_w]
    rfl
  refine pure_ (i := 8) (N := some 14) (v := ?_) (a' := ?_) #[true, true, true, true, true, true, true, false, true, false, false, false, false, false, false, false, false] rfl rfl (by kernel_rfl) (fun _ _ _ h => h) (Or.inl ⟨by rfl, ?_⟩) ?_ ?_
  rotate_left
  · intro w'
    go_simp
    with_reducible rfl
  rotate_left
  · simp only [Act.put, List.setIfInBounds_toArray, List.set_cons_zero, List.set_cons_succ, i64_w, i32_w]
    rfl
  refine pure_ (i := 9) (N := some 15) (v := ?_) (a' := ?_) #[true, true, true, true, true, true, true, false, true, true, false, false, false, false, false, false, false] rfl rfl (by kernel_rfl) (fun _ _ _ h => h) (Or.inl ⟨by rfl, ?_⟩) ?_ ?_
  rotate_left
  · intro w'
    go_simp
    with_reducible rfl
  rotate_left
  · simp only [Act.put, List.setIfInBounds_toArray, List.set_cons_zero, List.set_cons_succ, i64_w, i32_w]
    rfl
  refine pure_ (i := 10) (N := some 16) (v := ?_) (a' := ?_) #[true, true, true, true, true, true, true, false, true, true, true, false, false, false, false, false, false] rfl rfl (by kernel_rfl) (fun _ _ _ h => h) (Or.inl ⟨by rfl, ?_⟩) ?_ ?_
  rotate_left
  · intro w'
    go_simp
    with_reducible rfl
  rotate_left
  · simp only [Act.put, List.setIfInBounds_toArray, List.set_cons_zero, List.set_cons_succ, i64_w, i32_w]
    rfl
  refine take_ (i := 7) (N := some 13) (v := ?_) (a' := ?_) #[true, true, true, true, true, true, true, true, true, true, true, false, false, false, false, false, false] rfl rfl (by kernel_rfl) (fun _ _ _ h => h) (Or.inl ⟨by rfl, ?_⟩) hHeld ?_ ?_
  rotate_left
  · rintro w' ⟨s0, s1, s2, s3, s4⟩
    go_simp
    with_reducible rfl
  rotate_left
  · simp only [Act.put, List.setIfInBounds_toArray, List.set_cons_zero, List.set_cons_succ, i64_w, i32_w]
    rfl
  refine take_ (i := 11) (N := some 17) (v := ?_) (a' := ?_) #[true, true, true, true, true, true, true, true, true, true, true, true, false, false, false, false, false] rfl rfl (by kernel_rfl) (fun _ _ _ h => h) (Or.inl ⟨by rfl, ?_⟩) hHeld ?_ ?_
  rotate_left
  · rintro w' ⟨s0, s1, s2, s3, s4⟩
    go_simp
    with_reducible rfl
  rotate_left
  · simp only [Act.put, List.setIfInBounds_toArray, List.set_cons_zero, List.set_cons_succ, i64_w, i32_w]
    rfl
  refine pure_ (i := 12) (N := some 18) (v := ?_) (a' := ?_) #[true, true, true, true, true, true, true, true, true, true, true, true, true, false, false, false, false] rfl rfl (by kernel_rfl) (fun _ _ _ h => h) (Or.inl ⟨by rfl, ?_⟩) ?_ ?_
  rotate_left
  · intro w'
    go_simp
    with_reducible rfl
  rotate_left
  · simp only [Act.put, List.setIfInBounds_toArray, List.set_cons_zero, List.set_cons_succ, i64_w, i32_w]
    rfl
  refine pure_ (i := 13) (N := some 19) (v := ?_) (a' := ?_) #[true, true, true, true, true, true, true, true, true, true, true, true, true, true, false, false, false] rfl rfl (by kernel_rfl) (fun _ _ _ h => h) (Or.inl ⟨by rfl, ?_⟩) ?_ ?_
  rotate_left
  · intro w'
    go_simp
    with_reducible rfl
  rotate_left
  · simp only [Act.put, List.setIfInBounds_toArray, List.set_cons_zero, List.set_cons_succ, i64_w, i32_w]
    rfl
  refine take_ (i := 14) (N := some 20) (v := ?_) (a' := ?_) #[true, true, true, true, true, true, true, true, true, true, true, true, true, true, true, false, false] rfl rfl (by kernel_rfl) (fun _ _ _ h => h) (Or.inl ⟨by rfl, ?_⟩) hHeld ?_ ?_
  rotate_left
  · rintro w' ⟨s0, s1, s2, s3, s4⟩
    go_simp
    with_reducible rfl
  rotate_left
  · simp only [Act.put, List.setIfInBounds_toArray, List.set_cons_zero, List.set_cons_succ, i64_w, i32_w]
    rfl
  refine pure_ (i := 15) (N := some 21) (v := ?_) (a' := ?_) #[true, true, true, true, true, true, true, true, true, true, true, true, true, true, true, true, false] rfl rfl (by kernel_rfl) (fun _ _ _ h => h) (Or.inl ⟨by rfl, ?_⟩) ?_ ?_
  rotate_left
  · intro w'
    go_simp
    with_reducible rfl
  rotate_left
  · simp only [Act.put, List.setIfInBounds_toArray, List.set_cons_zero, List.set_cons_succ, i64_w, i32_w]
    rfl
  refine pure_ (i := 16) (N := some 22) (v := ?_) (a' := ?_) #[true, true, true, true, true, true, true, true, true, true, true, true, true, true, true, true, true] rfl rfl (by kernel_rfl) (fun _ _ _ h => h) (Or.inl ⟨by rfl, ?_⟩) ?_ ?_
  rotate_left
  · intro w'
    go_simp
    with_reducible rfl
  rotate_left
  · simp only [Act.put, List.setIfInBounds_toArray, List.set_cons_zero, List.set_cons_succ, i64_w, i32_w]
    rfl
  refine done_ (by kernel_rfl) ?_
  have AR3 := Aside0.mk (AR1.out.drewN (1 + nd))
  go_wp2_with (first | (go_at_call 35; (with_reducible refine (register_walk w0 _ g (some ad) c l a HL.out HS.out HT.out HG.out AR3.out.rd none HQ.out).mono ?_); rintro e w2 ⟨rfl, hp, hf⟩; have AR4 := Aside0.mk (AR3.out.step hf hp); have v0 := (blk_cell AR4.out.box 0); have v1 := (blk_cell AR4.out.box 1); have v2 := (blk_cell AR4.out.box 2); have v3 := (blk_cell AR4.out.box 3); have v4 := (blk_cell AR4.out.box 4); have v5 := (blk_cell AR4.out.box 5); have v6 := (blk_cell AR4.out.box 6); have vf0 := blk_frozen AR4.out.box 0; have vf1 := blk_frozen AR4.out.box 1; have vf2 := blk_frozen AR4.out.box 2; have vf3 := blk_frozen AR4.out.box 3; have vf4 := blk_frozen AR4.out.box 4; have vf5 := blk_frozen AR4.out.box 5; have vf6 := blk_frozen AR4.out.box 6; simp only [aV, z32, z30, List.getElem?_toArray, List.getElem?_cons_zero, List.getElem?_cons_succ] at v0 v1 v2 v3 v4 v5 v6; clear hp hf) | (go_at_call 20; (with_reducible refine (is_walk w0 _ g (some ad) c l a a 0 40 hb0 (AR4.out.setx (y := (⟨2, 0, z30, (⟨#[]⟩ : ByteArray)⟩ : S32)) 0 (.int .u8 2) rfl).rd false HMK.out).mono ?_); rintro e w3 ⟨rfl, ⟨nd2, rfl⟩⟩; skip))
  obtain ⟨w5, hw5, AR7⟩ : ∃ V, ((w2.setCell ⟨p, 0, none⟩ (.int .u8 2)).drewN nd2) = V ∧ Aside0 (AR w0 W V g (some ad) c l a p (⟨2, 0, z30, (⟨#[]⟩ : ByteArray)⟩ : S32)) := ⟨_, rfl, ⟨(AR4.out.setx (y := (⟨2, 0, z30, (⟨#[]⟩ : ByteArray)⟩ : S32)) 0 (.int .u8 2) rfl).drewN nd2⟩⟩
  rw [hw5]
  clear hw5 AR1 AR2 AR3 AR4 c0 c1 x0 x1 x2 v0 v1 v2 v3 v4 v5 v6 vf0 vf1 vf2 vf3 vf4 vf5 vf6
  have g0 := AR7.out.rd.cell0
  have g1 := AR7.out.rd.cell1
  refine start_ (n := 20) (S := fun w' => w'.cell? ⟨g, 0, none⟩ = some (.slice (some ad) l.length c) ∧ w'.cell? ⟨g, 1, none⟩ = some (.int .i64 (a : Int))) (ds := [15, 18]) #[false, false, false, false, false, false, false, false, false, false, false, false, false, false, false, false, false, false, false, false] (by kernel_rfl) rfl rfl ⟨g0, g1⟩ (fun hHeld => ?_)
  refine pure_ (i := 0) (N := some 55) (v := ?_) (a' := ?_) #[true, false, false, false, false, false, false, false, false, false, false, false, false, false, false, false, false, false, false, false] rfl rfl (by kernel_rfl) (fun _ _ _ h => h) (Or.inl ⟨by rfl, ?_⟩) ?_ ?_
  rotate_left
  · intro w'
    go_simp
    with_reducible rfl
  rotate_left
  · simp only [Act.put, List.setIfInBounds_toArray, List.set_cons_zero, List.set_cons_succ, i64_w, i32_w]
    rfl
  refine pure_ (i := 1) (N := some 56) (v := ?_) (a' := ?_) #[true, true, false, false, false, false, false, false, false, false, false, false, false, false, false, false, false, false, false, false] rfl rfl (by kernel_rfl) (fun _ _ _ h => h) (Or.inl ⟨by rfl, ?_⟩) ?_ ?_
  rotate_left
  · intro w'
    go_simp
    with_reducible rfl
  rotate_left
  · simp only [Act.put, List.setIfInBounds_toArray, List.set_cons_zero, List.set_cons_succ, i64_w, i32_w]
    rfl
  refine pure_ (i := 2) (N := some 57) (v := ?_) (a' := ?_) #[true, true, true, false, false, false, false, false, false, false, false, false, false, false, false, false, false, false, false, false] rfl rfl (by kernel_rfl) (fun _ _ _ h => h) (Or.inl ⟨by rfl, ?_⟩) ?_ ?_
  rotate_left
  · intro w'
    go_simp
    with_reducible rfl
  rotate_left
  · simp only [Act.put, List.setIfInBounds_toArray, List.set_cons_zero, List.set_cons_succ, i64_w, i32_w]
    rfl
  refine pure_ (i := 3) (N := some 58) (v := ?_) (a' := ?_) #[true, true, true, true, false, false, false, false, false, false, false, false, false, false, false, false, false, false, false, false] rfl rfl (by kernel_rfl) (fun _ _ _ h => h) (Or.inl ⟨by rfl, ?_⟩) ?_ ?_
  rotate_left
  · intro w'
    go_simp
    with_reducible rfl
  rotate_left
  · simp only [Act.put, List.setIfInBounds_toArray, List.set_cons_zero, List.set_cons_succ, i64_w, i32_w]
    rfl
  refine pure_ (i := 5) (N := some 60) (v := ?_) (a' := ?_) #[true, true, true, true, false, true, false, false, false, false, false, false, false, false, false, false, false, false, false, false] rfl rfl (by kernel_rfl) (fun _ _ _ h => h) (Or.inl ⟨by rfl, ?_⟩) ?_ ?_
  rotate_left
  · intro w'
    go_simp
    with_reducible rfl
  rotate_left
  · simp only [Act.put, List.setIfInBounds_toArray, List.set_cons_zero, List.set_cons_succ, i64_w, i32_w]
    rfl
  refine pure_ (i := 6) (N := some 61) (v := ?_) (a' := ?_) #[true, true, true, true, false, true, true, false, false, false, false, false, false, false, false, false, false, false, false, false] rfl rfl (by kernel_rfl) (fun _ _ _ h => h) (Or.inl ⟨by rfl, ?_⟩) ?_ ?_
  rotate_left
  · intro w'
    go_simp
    with_reducible rfl
  rotate_left
  · simp only [Act.put, List.setIfInBounds_toArray, List.set_cons_zero, List.set_cons_succ, i64_w, i32_w]
    rfl
  refine pure_ (i := 7) (N := some 62) (v := ?_) (a' := ?_) #[true, true, true, true, false, true, true, true, false, false, false, false, false, false, false, false, false, false, false, false] rfl rfl (by kernel_rfl) (fun _ _ _ h => h) (Or.inl ⟨by rfl, ?_⟩) ?_ ?_
  rotate_left
  · intro w'
    go_simp
    with_reducible rfl
  rotate_left
  · simp only [Act.put, List.setIfInBounds_toArray, List.set_cons_zero, List.set_cons_succ, i64_w, i32_w]
    rfl
  refine take_ (i := 4) (N := some 59) (v := ?_) (a' := ?_) #[true, true, true, true, true, true, true, true, false, false, false, false, false, false, false, false, false, false, false, false] rfl rfl (by kernel_rfl) (fun _ _ _ h => h) (Or.inl ⟨by rfl, ?_⟩) hHeld ?_ ?_
  rotate_left
  · rintro w' ⟨s0, s1⟩
    go_simp
    with_reducible rfl
  rotate_left
  · simp only [Act.put, List.setIfInBounds_toArray, List.set_cons_zero, List.set_cons_succ, i64_w, i32_w]
    rfl
  refine take_ (i := 8) (N := some 63) (v := ?_) (a' := ?_) #[true, true, true, true, true, true, true, true, true, false, false, false, false, false, false, false, false, false, false, false] rfl rfl (by kernel_rfl) (fun _ _ _ h => h) (Or.inl ⟨by rfl, ?_⟩) hHeld ?_ ?_
  rotate_left
  · rintro w' ⟨s0, s1⟩
    go_simp
    with_reducible rfl
  rotate_left
  · simp only [Act.put, List.setIfInBounds_toArray, List.set_cons_zero, List.set_cons_succ, i64_w, i32_w]
    rfl
  refine one_ (i := 9) (N := some 64) #[true, true, true, true, true, true, true, true, true, true, false, false, false, false, false, false, false, false, false, false] rfl rfl (by kernel_rfl) (by decide) (fun K hK => ?_)
  have hT9 := Lib.tabBelow_of_tabIs HT.out _ AR7.out.drew.rd.bel
  refine goes_ Tryd.func36 (by kernel_rfl) rfl #[.slice (some ad) l.length c, .int .i64 (a : Int)] (by rfl) rfl rfl (by simp only [List.map_toArray, List.map_cons, List.map_nil]; rfl) ?_
  with_reducible refine (expr_Parse.calls (some ad) c l (a : Int) s1 s2 n m (nx : Int) er _ (Kd.C_below AR7.out.rd.row AR7.out.drew.rd.bel) AR7.out.rd.cap hT9 (HD.out.below AR7.out.drew.rd.bel) (HM.out.below AR7.out.drew.rd.bel) HP.out).mono ?_
  rintro e w6 ⟨rfl, hb⟩
  refine ⟨_, rfl, ?_⟩
  have AR8 := Aside0.mk (AR7.out.drew.below hb)
  refine hK.out _ _ ⟨((hb.cell (World.block_lt_of_cell? _ _ hHeld.1)).trans hHeld.1), ((hb.cell (World.block_lt_of_cell? _ _ hHeld.2)).trans hHeld.2)⟩ (fun hHeld => ?_)
  clear hK K
  refine norm_ (a' := ?_) ?_ ?_
  rotate_left
  · show Act.put _ (some 64) _ = _
    simp only [Act.put, List.setIfInBounds_toArray, List.set_cons_zero, List.set_cons_succ, i64_w, i32_w]
    rfl
  refine pure_ (i := 10) (N := some 54) (v := ?_) (a' := ?_) #[true, true, true, true, true, true, true, true, true, true, true, false, false, false, false, false, false, false, false, false] rfl rfl (by kernel_rfl) (fun _ _ _ h => h) (Or.inl ⟨by rfl, ?_⟩) ?_ ?_
  rotate_left
  · intro w'
    go_simp
    with_reducible rfl
  rotate_left
  · simp only [Act.put, List.setIfInBounds_toArray, List.set_cons_zero, List.set_cons_succ, i64_w, i32_w]
    rfl
  refine pure_ (i := 11) (N := some 65) (v := ?_) (a' := ?_) #[true, true, true, true, true, true, true, true, true, true, true, true, false, false, false, false, false, false, false, false] rfl rfl (by kernel_rfl) (fun _ _ _ h => h) (Or.inl ⟨by rfl, ?_⟩) ?_ ?_
  rotate_left
  · intro w'
    go_simp
    with_reducible rfl
  rotate_left
  · simp only [Act.put, List.setIfInBounds_toArray, List.set_cons_zero, List.set_cons_succ, i64_w, i32_w]
    rfl
  refine pure_ (i := 12) (N := some 66) (v := ?_) (a' := ?_) #[true, true, true, true, true, true, true, true, true, true, true, true, true, false, false, false, false, false, false, false] rfl rfl (by kernel_rfl) (fun _ _ _ h => h) (Or.inl ⟨by rfl, ?_⟩) ?_ ?_
  rotate_left
  · intro w'
    go_simp
    with_reducible rfl
  rotate_left
  · simp only [Act.put, List.setIfInBounds_toArray, List.set_cons_zero, List.set_cons_succ, i64_w, i32_w]
    rfl
  refine pure_ (i := 13) (N := some 67) (v := ?_) (a' := ?_) #[true, true, true, true, true, true, true, true, true, true, true, true, true, true, false, false, false, false, false, false] rfl rfl (by kernel_rfl) (fun _ _ _ h => h) (Or.inl ⟨by rfl, ?_⟩) ?_ ?_
  rotate_left
  · intro w'
    go_simp
    with_reducible rfl
  rotate_left
  · simp only [Act.put, List.setIfInBounds_toArray, List.set_cons_zero, List.set_cons_succ, i64_w, i32_w]
    rfl
  refine pure_ (i := 14) (N := some 68) (v := ?_) (a' := ?_) #[true, true, true, true, true, true, true, true, true, true, true, true, true, true, true, false, false, false, false, false] rfl rfl (by kernel_rfl) (fun _ _ _ h => h) (Or.inl ⟨by rfl, ?_⟩) ?_ ?_
  rotate_left
  · intro w'
    go_simp
    with_reducible rfl
  rotate_left
  · simp only [Act.put, List.setIfInBounds_toArray, List.set_cons_zero, List.set_cons_succ, i64_w, i32_w]
    rfl
  refine last_ (i := 15) (N := none) #[true, true, true, true, true, true, true, true, true, true, true, true, true, true, true, true, false, false, false, false] rfl rfl (by kernel_rfl) (by decide) (fun K hK => ?_)
  have v0 := (blk_cell AR8.out.box 0)
  have v1 := (blk_cell AR8.out.box 1)
  have v2 := (blk_cell AR8.out.box 2)
  have v3 := (blk_cell AR8.out.box 3)
  have v4 := (blk_cell AR8.out.box 4)
  have v5 := (blk_cell AR8.out.box 5)
  have v6 := (blk_cell AR8.out.box 6)
  have vf0 := blk_frozen AR8.out.box 0
  have vf1 := blk_frozen AR8.out.box 1
  have vf2 := blk_frozen AR8.out.box 2
  have vf3 := blk_frozen AR8.out.box 3
  have vf4 := blk_frozen AR8.out.box 4
  have vf5 := blk_frozen AR8.out.box 5
  have vf6 := blk_frozen AR8.out.box 6
  simp only [aV, z32, z30, List.getElem?_toArray, List.getElem?_cons_zero, List.getElem?_cons_succ] at v0 v1 v2 v3 v4 v5 v6
  refine skip_ (w1 := ?_) (by rfl) rfl ?_ ?_
  rotate_left
  · go_simp
    rfl
  refine hK.out _ _ ?_
  clear hK K
  refine pure_ (i := 16) (N := some 69) (v := ?_) (a' := ?_) #[true, true, true, true, true, true, true, true, true, true, true, true, true, true, true, true, true, false, false, false] rfl rfl (by kernel_rfl) (fun _ _ _ h => h) (Or.inl ⟨by rfl, ?_⟩) ?_ ?_
  rotate_left
  · intro w'
    go_simp
    with_reducible rfl
  rotate_left
  · simp only [Act.put, List.setIfInBounds_toArray, List.set_cons_zero, List.set_cons_succ, i64_w, i32_w]
    rfl
  refine pure_ (i := 17) (N := some 70) (v := ?_) (a' := ?_) #[true, true, true, true, true, true, true, true, true, true, true, true, true, true, true, true, true, true, false, false] rfl rfl (by kernel_rfl) (fun _ _ _ h => h) (Or.inl ⟨by rfl, ?_⟩) ?_ ?_
  rotate_left
  · intro w'
    go_simp
    with_reducible rfl
  rotate_left
  · simp only [Act.put, List.setIfInBounds_toArray, List.set_cons_zero, List.set_cons_succ, i64_w, i32_w]
    rfl
  refine last_ (i := 18) (N := none) #[true, true, true, true, true, true, true, true, true, true, true, true, true, true, true, true, true, true, true, false] rfl rfl (by kernel_rfl) (by decide) (fun K hK => ?_)
  have y1 := AR8.out.rd.cell1
  have yf := blk_frozen AR8.out.rd.blk 1
  have ng : g ≠ p := AR8.out.ne
  have ng2 : p ≠ g := ng.symm
  refine skip_ (w1 := ?_) (by rfl) rfl ?_ ?_
  rotate_left
  · go_simp
    rfl
  refine hK.out _ _ ?_
  clear hK K
  refine pure_ (i := 19) (N := some 3) (v := ?_) (a' := ?_) #[true, true, true, true, true, true, true, true, true, true, true, true, true, true, true, true, true, true, true, true] rfl rfl (by kernel_rfl) (fun _ _ _ h => h) (Or.inl ⟨by rfl, ?_⟩) ?_ ?_
  rotate_left
  · intro w'
    go_simp
    with_reducible rfl
  rotate_left
  · simp only [Act.put, List.setIfInBounds_toArray, List.set_cons_zero, List.set_cons_succ, i64_w, i32_w]
    rfl
  refine done_ (by kernel_rfl) ?_
  obtain ⟨w9, hw9, AR9⟩ : ∃ V, (((((w6.setCell ⟨p, 2, none⟩ (.string s1)).setCell ⟨p, 3, none⟩ (.string s2)).setCell ⟨p, 4, none⟩ (.int .i64 n)).setCell ⟨p, 5, none⟩ (.int .u8 m)).setCell ⟨g, 1, none⟩ (.int .i64 (nx : Int))) = V ∧ Aside0 (AR w0 W V g (some ad) c l nx p (⟨2, 0, ⟨s1, s2, n, m⟩, (⟨#[]⟩ : ByteArray)⟩ : S32)) := ⟨_, rfl, ⟨((((AR8.out.setx (y := ⟨2, 0, ⟨s1, (⟨#[]⟩ : ByteArray), 0, 0⟩, (⟨#[]⟩ : ByteArray)⟩) 2 (.string s1) rfl).setx (y := ⟨2, 0, ⟨s1, s2, 0, 0⟩, (⟨#[]⟩ : ByteArray)⟩) 3 (.string s2) rfl).setx (y := ⟨2, 0, ⟨s1, s2, n, 0⟩, (⟨#[]⟩ : ByteArray)⟩) 4 (.int .i64 n) rfl).setx (y := (⟨2, 0, ⟨s1, s2, n, m⟩, (⟨#[]⟩ : ByteArray)⟩ : S32)) 5 (.int .u8 m) rfl).seti nx⟩⟩
  rw [hw9]
  clear hw9 AR7 AR8 g0 g1
  have q2 := (blk_cell AR9.out.box 2)
  have q3 := (blk_cell AR9.out.box 3)
  have q4 := (blk_cell AR9.out.box 4)
  have q5 := (blk_cell AR9.out.box 5)
  simp only [aV, List.getElem?_toArray, List.getElem?_cons_zero, List.getElem?_cons_succ] at q2 q3 q4 q5
  go_wp2_with (first | (go_at_call 37; have hTs := Lib.tabBelow_of_tabIs HT.out _ AR9.out.rd.bel; (with_reducible refine (line_sum.calls s1 s2 n m false _ hTs (HG.out.below AR9.out.rd.bel) HSUM.out).mono ?_); rintro e w10 ⟨rfl, hb⟩; have AR10 := Aside0.mk (AR9.out.below hb); skip; clear hb hTs))
  refine bodyPost_ret (results_ct rfl _ _ p 32 (aV (⟨2, 0, ⟨s1, s2, n, m⟩, (⟨#[]⟩ : ByteArray)⟩ : S32)) (0, 0) _ rfl (AR10.out.box) Tryd.underlying32 rfl (by kernel_rfl)) rfl ?_
  exact ⟨rfl, AR10.out.fr, _, AR10.out.rd⟩

set_option maxHeartbeats 8000000 in
set_option maxRecDepth 100000 in
theorem arg_pok (w0 W : World) (g : Nat) (A : Option Addr) (c : Nat) (l : List S53) (a : Nat) (hl : l.length ≤ 1000000) (ha : a ≤ l.length) (hs : ∀ x ∈ l, x.f1.size ≤ 1000000) (hT : Lib.TabIs Tryd.prog w0 "internal/strconv.uint64pow10" .u64 Lib.pow10Tab) (hD : LexW.LexD w0) (hM : ExW.ModsAt w0) (hG : LiW.RegsAt w0) (h : RD w0 W g A c l a) (t : S53) (ht : l[a]? = some t) (hk : ¬ t.f0 = 3) (hq : regAt l a = none) (hm : markB l a 40 = false) (s1 s2 : ByteArray) (n m er : Int) (nx : Nat) (hp : expr_Parse.f l (a : Int) = some (s1, s2, n, m, (nx : Int), er)) (he : er = 0) (hsum : line_sum.f s1 s2 n m = some true) (hnx : nx ≤ l.length) (hmn : markB l nx 40 = false) :
    Calls Tryd.prog 22 #[.pointer (some ⟨g, 0, none⟩)] W fun e W' => e = .returned (.tuple #[.agg (aV (⟨2, 0, ⟨s1, s2, n, m⟩, (⟨#[]⟩ : ByteArray)⟩ : S32)), .int .i64 0]) ∧ FR W W' g ∧ RD w0 W' g A c l nx := by
  have HR := Aside0.mk h
  have HT := Aside0.mk hT
  have HD := Aside0.mk hD
  have HM := Aside0.mk hM
  have HG := Aside0.mk hG
  have HL := Aside0.mk hl
  have HS := Aside0.mk hs
  have hlt : a < l.length := (List.getElem?_eq_some_iff.1 ht).1
  have HTT := Aside0.mk ht
  have HE := Aside0.mk (show decide (l.length ≤ a) = false from decide_eq_false (by omega))
  have p0 := eq_true (show (0 : Int) ≤ (a : Int) by omega)
  have q0 := eq_true (show (a : Int) < (l.length : Int) by omega)
  obtain ⟨a1, e1⟩ : ∃ x, x = a + 1 := ⟨_, rfl⟩
  have hb1 : wrap64 ((a : Int) + 1) = (a1 : Int) := by unfold wrap64; omega
  have E1 := Aside0.mk e1
  have k0 : (t.f0 == 3) = false := beq_eq_false_iff_ne.2 hk
  have HQ := Aside0.mk hq
  have HMK := Aside0.mk hm
  have HP := Aside0.mk hp
  have HA := Aside0.mk ha
  have hb0 : wrap64 ((a : Int) + 0) = (a : Int) := by unfold wrap64; omega
  have r0 : (er == 0) = true := beq_iff_eq.2 he
  have r1 : (er != 0) = false := bne_eq_false_iff_eq.2 he
  have HER := Aside0.mk he
  have HSUM := Aside0.mk hsum
  clear he hsum
  have HMN := Aside0.mk hmn
  have HNX := Aside0.mk hnx
  have hbn : wrap64 ((nx : Int) + 0) = (nx : Int) := by have := hl; unfold wrap64; omega
  clear hmn hnx
  clear h hl ha hs hT hD hM hG hlt hk e1 ht hq hm hp
  go_enter Tryd.func22, Tryd.ntmps22
  go_wp2_with (first | ((with_reducible refine gate_dst (N := 2) rfl ?_); refine box_event ?hg (N := 2) ?hd (cs := #[.int .u8 0, .int .i64 0, .string (⟨#[]⟩ : ByteArray), .string (⟨#[]⟩ : ByteArray), .int .i64 0, .int .u8 0, .string (⟨#[]⟩ : ByteArray)]) (t := 32) ?hr ?_; (case hd => rfl); (case hg => rfl); (case hr => first | (go_simp; done) | (go_simp; rfl)); intro p hg w1 hbox hb; have AR1 : Aside0 (AR w0 W w1 g A c l a p z32) := ⟨⟨FR.of_below hb, by rw [hg]; exact Nat.le_refl _, HR.out.below hb, hbox, by rw [hg]; exact HR.out.bel.size, by rw [hg]; exact Nat.ne_of_lt (blk_lt HR.out.blk)⟩⟩; clear hb hbox hg))
  have c0 := AR1.out.rd.cell0
  have c1 := AR1.out.rd.cell1
  obtain ⟨ad, rfl, x0, x1, x2⟩ := AR1.out.rd.tok2 a t HTT.out
  refine start_ (n := 17) (S := fun w' => w'.cell? ⟨g, 0, none⟩ = some (.slice (some ad) l.length c) ∧ w'.cell? ⟨g, 1, none⟩ = some (.int .i64 (a : Int)) ∧ w'.cell? (ad.add (a * 3)) = some (.int .u8 t.f0) ∧ w'.cell? ⟨(ad.add (a * 3)).block, (ad.add (a * 3)).off + 1, none⟩ = some (.string t.f1) ∧ w'.cell? ⟨(ad.add (a * 3)).block, (ad.add (a * 3)).off + 2, none⟩ = some (.int .i64 t.f2)) (ds := []) #[false, false, false, false, false, false, false, false, false, false, false, false, false, false, false, false, false] (by kernel_rfl) rfl rfl ⟨c0, c1, x0, x1, x2⟩ (fun hHeld => ?_)
  refine pure_ (i := 0) (N := some 6) (v := ?_) (a' := ?_) #[true, false, false, false, false, false, false, false, false, false, false, false, false, false, false, false, false] rfl rfl (by kernel_rfl) (fun _ _ _ h => h) (Or.inl ⟨by rfl, ?_⟩) ?_ ?_
  rotate_left
  · intro w'
    go_simp
    with_reducible rfl
  rotate_left
  · simp only [Act.put, List.setIfInBounds_toArray, List.set_cons_zero, List.set_cons_succ, i64_w, i32_w]
    rfl
  refine one_ (i := 1) (N := some 7) #[true, true, false, false, false, false, false, false, false, false, false, false, false, false, false, false, false] rfl rfl (by kernel_rfl) (by decide) (fun K hK => ?_)
  refine goes_ Tryd.func15 (by kernel_rfl) rfl #[.pointer (some ⟨g, 0, none⟩)] (by rfl) rfl rfl (by simp only [List.map_toArray, List.map_cons, List.map_nil]; rfl) ?_
  with_reducible refine (end_walk w0 _ g (some ad) c l a AR1.out.rd.drew false HE.out).mono ?_
  rintro e w5 ⟨rfl, ⟨nd, rfl⟩⟩
  refine ⟨_, rfl, ?_⟩
  have AR2 := Aside0.mk (AR1.out.drew.drewN nd)
  refine hK.out _ _ ⟨hHeld.1, hHeld.2.1, hHeld.2.2.1, hHeld.2.2.2.1, hHeld.2.2.2.2⟩ (fun hHeld => ?_)
  clear hK K
  refine norm_ (a' := ?_) ?_ ?_
  rotate_left
  · show Act.put _ (some 7) _ = _
    simp only [Act.put, List.setIfInBounds_toArray, List.set_cons_zero, List.set_cons_succ, i64_w, i32_w]
    rfl
  refine pure_ (i := 2) (N := some 8) (v := ?_) (a' := ?_) #[true, true, true, false, false, false, false, false, false, false, false, false, false, false, false, false, false] rfl rfl (by kernel_rfl) (fun _ _ _ h => h) (Or.inl ⟨by rfl, ?_⟩) ?_ ?_
  rotate_left
  · intro w'
    go_simp
    with_reducible rfl
  rotate_left
  · simp only [Act.put, List.setIfInBounds_toArray, List.set_cons_zero, List.set_cons_succ, i64_w, i32_w]
    rfl
  refine pure_ (i := 3) (N := some 9) (v := ?_) (a' := ?_) #[true, true, true, true, false, false, false, false, false, false, false, false, false, false, false, false, false] rfl rfl (by kernel_rfl) (fun _ _ _ h => h) (Or.inl ⟨by rfl, ?_⟩) ?_ ?_
  rotate_left
  · intro w'
    go_simp
    with_reducible rfl
  rotate_left
  · simp only [Act.put, List.setIfInBounds_toArray, List.set_cons_zero, List.set_cons_succ, i64_w, i32_w]
    rfl
  refine pure_ (i := 4) (N := some 10) (v := ?_) (a' := ?_) #[true, true, true, true, true, false, false, false, false, false, false, false, false, false, false, false, false] rfl rfl (by kernel_rfl) (fun _ _ _ h => h) (Or.inl ⟨by rfl, ?_⟩) ?_ ?_
  rotate_left
  · intro w'
    go_simp
    with_reducible rfl
  rotate_left
  · simp only [Act.put, List.setIfInBounds_toArray, List.set_cons_zero, List.set_cons_succ, i64_w, i32_w]
    rfl
  refine pure_ (i := 5) (N := some 11) (v := ?_) (a' := ?_) #[true, true, true, true, true, true, false, false, false, false, false, false, false, false, false, false, false] rfl rfl (by kernel_rfl) (fun _ _ _ h => h) (Or.inl ⟨by rfl, ?_⟩) ?_ ?_
  rotate_left
  · intro w'
    go_simp
    with_reducible rfl
  rotate_left
  · simp only [Act.put, List.setIfInBounds_toArray, List.set_cons_zero, List.set_cons_succ, i64_w, i32_w]
    rfl
  refine pure_ (i := 6) (N := some 12) (v := ?_) (a' := ?_) #[true, true, true, true, true, true, true, false, false, false, false, false, false, false, false, false, false] rfl rfl (by kernel_rfl) (fun _ _ _ h => h) (Or.inl ⟨by rfl, ?_⟩) ?_ ?_
  rotate_left
  · intro w'
    go_simp
    with_reducible rfl
  rotate_left
  · simp only [Act.put, List.setIfInBounds_toArray, List.set_cons_zero, List.set_cons_succ, i64_w, i32_w]
    rfl
  refine pure_ (i := 8) (N := some 14) (v := ?_) (a' := ?_) #[true, true, true, true, true, true, true, false, true, false, false, false, false, false, false, false, false] rfl rfl (by kernel_rfl) (fun _ _ _ h => h) (Or.inl ⟨by rfl, ?_⟩) ?_ ?_
  rotate_left
  · intro w'
    go_simp
    with_reducible rfl
  rotate_left
  · simp only [Act.put, List.setIfInBounds_toArray, List.set_cons_zero, List.set_cons_succ, i64_w, i32_w]
    rfl
  refine pure_ (i := 9) (N := some 15) (v := ?_) (a' := ?_) #[true, true, true, true, true, true, true, false, true, true, false, false, false, false, false, false, false] rfl rfl (by kernel_rfl) (fun _ _ _ h => h) (Or.inl ⟨by rfl, ?_⟩) ?_ ?_
  rotate_left
  · intro w'
    go_simp
    with_reducible rfl
  rotate_left
  · simp only [Act.put, List.setIfInBounds_toArray, List.set_cons_zero, List.set_cons_succ, i64_w, i32_w]
    rfl
  refine pure_ (i := 10) (N := some 16) (v := ?_) (a' := ?_) #[true, true, true, true, true, true, true, false, true, true, true, false, false, false, false, false, false] rfl rfl (by kernel_rfl) (fun _ _ _ h => h) (Or.inl ⟨by rfl, ?_⟩) ?_ ?_
  rotate_left
  · intro w'
    go_simp
    with_reducible rfl
  rotate_left
  · simp only [Act.put, List.setIfInBounds_toArray, List.set_cons_zero, List.set_cons_succ, i64_w, i32_w]
    rfl
  refine take_ (i := 7) (N := some 13) (v := ?_) (a' := ?_) #[true, true, true, true, true, true, true, true, true, true, true, false, false, false, false, false, false] rfl rfl (by kernel_rfl) (fun _ _ _ h => h) (Or.inl ⟨by rfl, ?_⟩) hHeld ?_ ?_
  rotate_left
  · rintro w' ⟨s0, s1, s2, s3, s4⟩
    go_simp
    with_reducible rfl
  rotate_left
  · simp only [Act.put, List.setIfInBounds_toArray, List.set_cons_zero, List.set_cons_succ, i64_w, i32_w]
    rfl
  refine take_ (i := 11) (N := some 17) (v := ?_) (a' := ?_) #[true, true, true, true, true, true, true, true, true, true, true, true, false, false, false, false, false] rfl rfl (by kernel_rfl) (fun _ _ _ h => h) (Or.inl ⟨by rfl, ?_⟩) hHeld ?_ ?_
  rotate_left
  · rintro w' ⟨s0, s1, s2, s3, s4⟩
    go_simp
    with_reducible rfl
  rotate_left
  · simp only [Act.put, List.setIfInBounds_toArray, List.set_cons_zero, List.set_cons_succ, i64_w, i32_w]
    rfl
  refine pure_ (i := 12) (N := some 18) (v := ?_) (a' := ?_) #[true, true, true, true, true, true, true, true, true, true, true, true, true, false, false, false, false] rfl rfl (by kernel_rfl) (fun _ _ _ h => h) (Or.inl ⟨by rfl, ?_⟩) ?_ ?_
  rotate_left
  · intro w'
    go_simp
    with_reducible rfl
  rotate_left
  · simp only [Act.put, List.setIfInBounds_toArray, List.set_cons_zero, List.set_cons_succ, i64_w, i32_w]
    rfl
  refine pure_ (i := 13) (N := some 19) (v := ?_) (a' := ?_) #[true, true, true, true, true, true, true, true, true, true, true, true, true, true, false, false, false] rfl rfl (by kernel_rfl) (fun _ _ _ h => h) (Or.inl ⟨by rfl, ?_⟩) ?_ ?_
  rotate_left
  · intro w'
    go_simp
    with_reducible rfl
  rotate_left
  · simp only [Act.put, List.setIfInBounds_toArray, List.set_cons_zero, List.set_cons_succ, i64_w, i32_w]
    rfl
  refine take_ (i := 14) (N := some 20) (v := ?_) (a' := ?_) #[true, true, true, true, true, true, true, true, true, true, true, true, true, true, true, false, false] rfl rfl (by kernel_rfl) (fun _ _ _ h => h) (Or.inl ⟨by rfl, ?_⟩) hHeld ?_ ?_
  rotate_left
  · rintro w' ⟨s0, s1, s2, s3, s4⟩
    go_simp
    with_reducible rfl
  rotate_left
  · simp only [Act.put, List.setIfInBounds_toArray, List.set_cons_zero, List.set_cons_succ, i64_w, i32_w]
    rfl
  refine pure_ (i := 15) (N := some 21) (v := ?_) (a' := ?_) #[true, true, true, true, true, true, true, true, true, true, true, true, true, true, true, true, false] rfl rfl (by kernel_rfl) (fun _ _ _ h => h) (Or.inl ⟨by rfl, ?_⟩) ?_ ?_
  rotate_left
  · intro w'
    go_simp
    with_reducible rfl
  rotate_left
  · simp only [Act.put, List.setIfInBounds_toArray, List.set_cons_zero, List.set_cons_succ, i64_w, i32_w]
    rfl
  refine pure_ (i := 16) (N := some 22) (v := ?_) (a' := ?_) #[true, true, true, true, true, true, true, true, true, true, true, true, true, true, true, true, true] rfl rfl (by kernel_rfl) (fun _ _ _ h => h) (Or.inl ⟨by rfl, ?_⟩) ?_ ?_
  rotate_left
  · intro w'
    go_simp
    with_reducible rfl
  rotate_left
  · simp only [Act.put, List.setIfInBounds_toArray, List.set_cons_zero, List.set_cons_succ, i64_w, i32_w]
    rfl
  refine done_ (by kernel_rfl) ?_
  have AR3 := Aside0.mk (AR1.out.drewN (1 + nd))
  go_wp2_with (first | (go_at_call 35; (with_reducible refine (register_walk w0 _ g (some ad) c l a HL.out HS.out HT.out HG.out AR3.out.rd none HQ.out).mono ?_); rintro e w2 ⟨rfl, hp, hf⟩; have AR4 := Aside0.mk (AR3.out.step hf hp); have v0 := (blk_cell AR4.out.box 0); have v1 := (blk_cell AR4.out.box 1); have v2 := (blk_cell AR4.out.box 2); have v3 := (blk_cell AR4.out.box 3); have v4 := (blk_cell AR4.out.box 4); have v5 := (blk_cell AR4.out.box 5); have v6 := (blk_cell AR4.out.box 6); have vf0 := blk_frozen AR4.out.box 0; have vf1 := blk_frozen AR4.out.box 1; have vf2 := blk_frozen AR4.out.box 2; have vf3 := blk_frozen AR4.out.box 3; have vf4 := blk_frozen AR4.out.box 4; have vf5 := blk_frozen AR4.out.box 5; have vf6 := blk_frozen AR4.out.box 6; simp only [aV, z32, z30, List.getElem?_toArray, List.getElem?_cons_zero, List.getElem?_cons_succ] at v0 v1 v2 v3 v4 v5 v6; clear hp hf) | (go_at_call 20; (with_reducible refine (is_walk w0 _ g (some ad) c l a a 0 40 hb0 (AR4.out.setx (y := (⟨2, 0, z30, (⟨#[]⟩ : ByteArray)⟩ : S32)) 0 (.int .u8 2) rfl).rd false HMK.out).mono ?_); rintro e w3 ⟨rfl, ⟨nd2, rfl⟩⟩; skip))
  obtain ⟨w5, hw5, AR7⟩ : ∃ V, ((w2.setCell ⟨p, 0, none⟩ (.int .u8 2)).drewN nd2) = V ∧ Aside0 (AR w0 W V g (some ad) c l a p (⟨2, 0, z30, (⟨#[]⟩ : ByteArray)⟩ : S32)) := ⟨_, rfl, ⟨(AR4.out.setx (y := (⟨2, 0, z30, (⟨#[]⟩ : ByteArray)⟩ : S32)) 0 (.int .u8 2) rfl).drewN nd2⟩⟩
  rw [hw5]
  clear hw5 AR1 AR2 AR3 AR4 c0 c1 x0 x1 x2 v0 v1 v2 v3 v4 v5 v6 vf0 vf1 vf2 vf3 vf4 vf5 vf6
  have g0 := AR7.out.rd.cell0
  have g1 := AR7.out.rd.cell1
  refine start_ (n := 20) (S := fun w' => w'.cell? ⟨g, 0, none⟩ = some (.slice (some ad) l.length c) ∧ w'.cell? ⟨g, 1, none⟩ = some (.int .i64 (a : Int))) (ds := [15, 18]) #[false, false, false, false, false, false, false, false, false, false, false, false, false, false, false, false, false, false, false, false] (by kernel_rfl) rfl rfl ⟨g0, g1⟩ (fun hHeld => ?_)
  refine pure_ (i := 0) (N := some 55) (v := ?_) (a' := ?_) #[true, false, false, false, false, false, false, false, false, false, false, false, false, false, false, false, false, false, false, false] rfl rfl (by kernel_rfl) (fun _ _ _ h => h) (Or.inl ⟨by rfl, ?_⟩) ?_ ?_
  rotate_left
  · intro w'
    go_simp
    with_reducible rfl
  rotate_left
  · simp only [Act.put, List.setIfInBounds_toArray, List.set_cons_zero, List.set_cons_succ, i64_w, i32_w]
    rfl
  refine pure_ (i := 1) (N := some 56) (v := ?_) (a' := ?_) #[true, true, false, false, false, false, false, false, false, false, false, false, false, false, false, false, false, false, false, false] rfl rfl (by kernel_rfl) (fun _ _ _ h => h) (Or.inl ⟨by rfl, ?_⟩) ?_ ?_
  rotate_left
  · intro w'
    go_simp
    with_reducible rfl
  rotate_left
  · simp only [Act.put, List.setIfInBounds_toArray, List.set_cons_zero, List.set_cons_succ, i64_w, i32_w]
    rfl
  refine pure_ (i := 2) (N := some 57) (v := ?_) (a' := ?_) #[true, true, true, false, false, false, false, false, false, false, false, false, false, false, false, false, false, false, false, false] rfl rfl (by kernel_rfl) (fun _ _ _ h => h) (Or.inl ⟨by rfl, ?_⟩) ?_ ?_
  rotate_left
  · intro w'
    go_simp
    with_reducible rfl
  rotate_left
  · simp only [Act.put, List.setIfInBounds_toArray, List.set_cons_zero, List.set_cons_succ, i64_w, i32_w]
    rfl
  refine pure_ (i := 3) (N := some 58) (v := ?_) (a' := ?_) #[true, true, true, true, false, false, false, false, false, false, false, false, false, false, false, false, false, false, false, false] rfl rfl (by kernel_rfl) (fun _ _ _ h => h) (Or.inl ⟨by rfl, ?_⟩) ?_ ?_
  rotate_left
  · intro w'
    go_simp
    with_reducible rfl
  rotate_left
  · simp only [Act.put, List.setIfInBounds_toArray, List.set_cons_zero, List.set_cons_succ, i64_w, i32_w]
    rfl
  refine pure_ (i := 5) (N := some 60) (v := ?_) (a' := ?_) #[true, true, true, true, false, true, false, false, false, false, false, false, false, false, false, false, false, false, false, false] rfl rfl (by kernel_rfl) (fun _ _ _ h => h) (Or.inl ⟨by rfl, ?_⟩) ?_ ?_
  rotate_left
  · intro w'
    go_simp
    with_reducible rfl
  rotate_left
  · simp only [Act.put, List.setIfInBounds_toArray, List.set_cons_zero, List.set_cons_succ, i64_w, i32_w]
    rfl
  refine pure_ (i := 6) (N := some 61) (v := ?_) (a' := ?_) #[true, true, true, true, false, true, true, false, false, false, false, false, false, false, false, false, false, false, false, false] rfl rfl (by kernel_rfl) (fun _ _ _ h => h) (Or.inl ⟨by rfl, ?_⟩) ?_ ?_
  rotate_left
  · intro w'
    go_simp
    with_reducible rfl
  rotate_left
  · simp only [Act.put, List.setIfInBounds_toArray, List.set_cons_zero, List.set_cons_succ, i64_w, i32_w]
    rfl
  refine pure_ (i := 7) (N := some 62) (v := ?_) (a' := ?_) #[true, true, true, true, false, true, true, true, false, false, false, false, false, false, false, false, false, false, false, false] rfl rfl (by kernel_rfl) (fun _ _ _ h => h) (Or.inl ⟨by rfl, ?_⟩) ?_ ?_
  rotate_left
  · intro w'
    go_simp
    with_reducible rfl
  rotate_left
  · simp only [Act.put, List.setIfInBounds_toArray, List.set_cons_zero, List.set_cons_succ, i64_w, i32_w]
    rfl
  refine take_ (i := 4) (N := some 59) (v := ?_) (a' := ?_) #[true, true, true, true, true, true, true, true, false, false, false, false, false, false, false, false, false, false, false, false] rfl rfl (by kernel_rfl) (fun _ _ _ h => h) (Or.inl ⟨by rfl, ?_⟩) hHeld ?_ ?_
  rotate_left
  · rintro w' ⟨s0, s1⟩
    go_simp
    with_reducible rfl
  rotate_left
  · simp only [Act.put, List.setIfInBounds_toArray, List.set_cons_zero, List.set_cons_succ, i64_w, i32_w]
    rfl
  refine take_ (i := 8) (N := some 63) (v := ?_) (a' := ?_) #[true, true, true, true, true, true, true, true, true, false, false, false, false, false, false, false, false, false, false, false] rfl rfl (by kernel_rfl) (fun _ _ _ h => h) (Or.inl ⟨by rfl, ?_⟩) hHeld ?_ ?_
  rotate_left
  · rintro w' ⟨s0, s1⟩
    go_simp
    with_reducible rfl
  rotate_left
  · simp only [Act.put, List.setIfInBounds_toArray, List.set_cons_zero, List.set_cons_succ, i64_w, i32_w]
    rfl
  refine one_ (i := 9) (N := some 64) #[true, true, true, true, true, true, true, true, true, true, false, false, false, false, false, false, false, false, false, false] rfl rfl (by kernel_rfl) (by decide) (fun K hK => ?_)
  have hT9 := Lib.tabBelow_of_tabIs HT.out _ AR7.out.drew.rd.bel
  refine goes_ Tryd.func36 (by kernel_rfl) rfl #[.slice (some ad) l.length c, .int .i64 (a : Int)] (by rfl) rfl rfl (by simp only [List.map_toArray, List.map_cons, List.map_nil]; rfl) ?_
  with_reducible refine (expr_Parse.calls (some ad) c l (a : Int) s1 s2 n m (nx : Int) er _ (Kd.C_below AR7.out.rd.row AR7.out.drew.rd.bel) AR7.out.rd.cap hT9 (HD.out.below AR7.out.drew.rd.bel) (HM.out.below AR7.out.drew.rd.bel) HP.out).mono ?_
  rintro e w6 ⟨rfl, hb⟩
  refine ⟨_, rfl, ?_⟩
  have AR8 := Aside0.mk (AR7.out.drew.below hb)
  refine hK.out _ _ ⟨((hb.cell (World.block_lt_of_cell? _ _ hHeld.1)).trans hHeld.1), ((hb.cell (World.block_lt_of_cell? _ _ hHeld.2)).trans hHeld.2)⟩ (fun hHeld => ?_)
  clear hK K
  refine norm_ (a' := ?_) ?_ ?_
  rotate_left
  · show Act.put _ (some 64) _ = _
    simp only [Act.put, List.setIfInBounds_toArray, List.set_cons_zero, List.set_cons_succ, i64_w, i32_w]
    rfl
  refine pure_ (i := 10) (N := some 54) (v := ?_) (a' := ?_) #[true, true, true, true, true, true, true, true, true, true, true, false, false, false, false, false, false, false, false, false] rfl rfl (by kernel_rfl) (fun _ _ _ h => h) (Or.inl ⟨by rfl, ?_⟩) ?_ ?_
  rotate_left
  · intro w'
    go_simp
    with_reducible rfl
  rotate_left
  · simp only [Act.put, List.setIfInBounds_toArray, List.set_cons_zero, List.set_cons_succ, i64_w, i32_w]
    rfl
  refine pure_ (i := 11) (N := some 65) (v := ?_) (a' := ?_) #[true, true, true, true, true, true, true, true, true, true, true, true, false, false, false, false, false, false, false, false] rfl rfl (by kernel_rfl) (fun _ _ _ h => h) (Or.inl ⟨by rfl, ?_⟩) ?_ ?_
  rotate_left
  · intro w'
    go_simp
    with_reducible rfl
  rotate_left
  · simp only [Act.put, List.setIfInBounds_toArray, List.set_cons_zero, List.set_cons_succ, i64_w, i32_w]
    rfl
  refine pure_ (i := 12) (N := some 66) (v := ?_) (a' := ?_) #[true, true, true, true, true, true, true, true, true, true, true, true, true, false, false, false, false, false, false, false] rfl rfl (by kernel_rfl) (fun _ _ _ h => h) (Or.inl ⟨by rfl, ?_⟩) ?_ ?_
  rotate_left
  · intro w'
    go_simp
    with_reducible rfl
  rotate_left
  · simp only [Act.put, List.setIfInBounds_toArray, List.set_cons_zero, List.set_cons_succ, i64_w, i32_w]
    rfl
  refine pure_ (i := 13) (N := some 67) (v := ?_) (a' := ?_) #[true, true, true, true, true, true, true, true, true, true, true, true, true, true, false, false, false, false, false, false] rfl rfl (by kernel_rfl) (fun _ _ _ h => h) (Or.inl ⟨by rfl, ?_⟩) ?_ ?_
  rotate_left
  · intro w'
    go_simp
    with_reducible rfl
  rotate_left
  · simp only [Act.put, List.setIfInBounds_toArray, List.set_cons_zero, List.set_cons_succ, i64_w, i32_w]
    rfl
  refine pure_ (i := 14) (N := some 68) (v := ?_) (a' := ?_) #[true, true, true, true, true, true, true, true, true, true, true, true, true, true, true, false, false, false, false, false] rfl rfl (by kernel_rfl) (fun _ _ _ h => h) (Or.inl ⟨by rfl, ?_⟩) ?_ ?_
  rotate_left
  · intro w'
    go_simp
    with_reducible rfl
  rotate_left
  · simp only [Act.put, List.setIfInBounds_toArray, List.set_cons_zero, List.set_cons_succ, i64_w, i32_w]
    rfl
  refine last_ (i := 15) (N := none) #[true, true, true, true, true, true, true, true, true, true, true, true, true, true, true, true, false, false, false, false] rfl rfl (by kernel_rfl) (by decide) (fun K hK => ?_)
  have v0 := (blk_cell AR8.out.box 0)
  have v1 := (blk_cell AR8.out.box 1)
  have v2 := (blk_cell AR8.out.box 2)
  have v3 := (blk_cell AR8.out.box 3)
  have v4 := (blk_cell AR8.out.box 4)
  have v5 := (blk_cell AR8.out.box 5)
  have v6 := (blk_cell AR8.out.box 6)
  have vf0 := blk_frozen AR8.out.box 0
  have vf1 := blk_frozen AR8.out.box 1
  have vf2 := blk_frozen AR8.out.box 2
  have vf3 := blk_frozen AR8.out.box 3
  have vf4 := blk_frozen AR8.out.box 4
  have vf5 := blk_frozen AR8.out.box 5
  have vf6 := blk_frozen AR8.out.box 6
  simp only [aV, z32, z30, List.getElem?_toArray, List.getElem?_cons_zero, List.getElem?_cons_succ] at v0 v1 v2 v3 v4 v5 v6
  refine skip_ (w1 := ?_) (by rfl) rfl ?_ ?_
  rotate_left
  · go_simp
    rfl
  refine hK.out _ _ ?_
  clear hK K
  refine pure_ (i := 16) (N := some 69) (v := ?_) (a' := ?_) #[true, true, true, true, true, true, true, true, true, true, true, true, true, true, true, true, true, false, false, false] rfl rfl (by kernel_rfl) (fun _ _ _ h => h) (Or.inl ⟨by rfl, ?_⟩) ?_ ?_
  rotate_left
  · intro w'
    go_simp
    with_reducible rfl
  rotate_left
  · simp only [Act.put, List.setIfInBounds_toArray, List.set_cons_zero, List.set_cons_succ, i64_w, i32_w]
    rfl
  refine pure_ (i := 17) (N := some 70) (v := ?_) (a' := ?_) #[true, true, true, true, true, true, true, true, true, true, true, true, true, true, true, true, true, true, false, false] rfl rfl (by kernel_rfl) (fun _ _ _ h => h) (Or.inl ⟨by rfl, ?_⟩) ?_ ?_
  rotate_left
  · intro w'
    go_simp
    with_reducible rfl
  rotate_left
  · simp only [Act.put, List.setIfInBounds_toArray, List.set_cons_zero, List.set_cons_succ, i64_w, i32_w]
    rfl
  refine last_ (i := 18) (N := none) #[true, true, true, true, true, true, true, true, true, true, true, true, true, true, true, true, true, true, true, false] rfl rfl (by kernel_rfl) (by decide) (fun K hK => ?_)
  have y1 := AR8.out.rd.cell1
  have yf := blk_frozen AR8.out.rd.blk 1
  have ng : g ≠ p := AR8.out.ne
  have ng2 : p ≠ g := ng.symm
  refine skip_ (w1 := ?_) (by rfl) rfl ?_ ?_
  rotate_left
  · go_simp
    rfl
  refine hK.out _ _ ?_
  clear hK K
  refine pure_ (i := 19) (N := some 3) (v := ?_) (a' := ?_) #[true, true, true, true, true, true, true, true, true, true, true, true, true, true, true, true, true, true, true, true] rfl rfl (by kernel_rfl) (fun _ _ _ h => h) (Or.inl ⟨by rfl, ?_⟩) ?_ ?_
  rotate_left
  · intro w'
    go_simp
    with_reducible rfl
  rotate_left
  · simp only [Act.put, List.setIfInBounds_toArray, List.set_cons_zero, List.set_cons_succ, i64_w, i32_w]
    rfl
  refine done_ (by kernel_rfl) ?_
  obtain ⟨w9, hw9, AR9⟩ : ∃ V, (((((w6.setCell ⟨p, 2, none⟩ (.string s1)).setCell ⟨p, 3, none⟩ (.string s2)).setCell ⟨p, 4, none⟩ (.int .i64 n)).setCell ⟨p, 5, none⟩ (.int .u8 m)).setCell ⟨g, 1, none⟩ (.int .i64 (nx : Int))) = V ∧ Aside0 (AR w0 W V g (some ad) c l nx p (⟨2, 0, ⟨s1, s2, n, m⟩, (⟨#[]⟩ : ByteArray)⟩ : S32)) := ⟨_, rfl, ⟨((((AR8.out.setx (y := ⟨2, 0, ⟨s1, (⟨#[]⟩ : ByteArray), 0, 0⟩, (⟨#[]⟩ : ByteArray)⟩) 2 (.string s1) rfl).setx (y := ⟨2, 0, ⟨s1, s2, 0, 0⟩, (⟨#[]⟩ : ByteArray)⟩) 3 (.string s2) rfl).setx (y := ⟨2, 0, ⟨s1, s2, n, 0⟩, (⟨#[]⟩ : ByteArray)⟩) 4 (.int .i64 n) rfl).setx (y := (⟨2, 0, ⟨s1, s2, n, m⟩, (⟨#[]⟩ : ByteArray)⟩ : S32)) 5 (.int .u8 m) rfl).seti nx⟩⟩
  rw [hw9]
  clear hw9 AR7 AR8 g0 g1
  have q2 := (blk_cell AR9.out.box 2)
  have q3 := (blk_cell AR9.out.box 3)
  have q4 := (blk_cell AR9.out.box 4)
  have q5 := (blk_cell AR9.out.box 5)
  simp only [aV, List.getElem?_toArray, List.getElem?_cons_zero, List.getElem?_cons_succ] at q2 q3 q4 q5
  go_wp2_with (first | (go_at_call 37; have hTs := Lib.tabBelow_of_tabIs HT.out _ AR9.out.rd.bel; (with_reducible refine (line_sum.calls s1 s2 n m true _ hTs (HG.out.below AR9.out.rd.bel) HSUM.out).mono ?_); rintro e w10 ⟨rfl, hb⟩; have AR10 := Aside0.mk (AR9.out.below hb); skip; clear hb hTs) | (go_at_call 20; (with_reducible refine (is_walk w0 _ g (some ad) c l nx nx 0 40 hbn AR10.out.rd false HMN.out).mono ?_); rintro e w11 ⟨rfl, ⟨nd3, rfl⟩⟩; skip))
  have AR12 := Aside0.mk (AR10.out.drewN nd3)
  refine bodyPost_ret (results_ct rfl _ _ p 32 (aV (⟨2, 0, ⟨s1, s2, n, m⟩, (⟨#[]⟩ : ByteArray)⟩ : S32)) (0, 0) _ rfl (AR12.out.box) Tryd.underlying32 rfl (by kernel_rfl)) rfl ?_
  exact ⟨by rw [HER.out]; rfl, AR12.out.fr, AR12.out.rd⟩

set_option maxHeartbeats 8000000 in
set_option maxRecDepth 100000 in
theorem arg_pmem_none (w0 W : World) (g : Nat) (A : Option Addr) (c : Nat) (l : List S53) (a : Nat) (hl : l.length ≤ 1000000) (ha : a ≤ l.length) (hs : ∀ x ∈ l, x.f1.size ≤ 1000000) (hT : Lib.TabIs Tryd.prog w0 "internal/strconv.uint64pow10" .u64 Lib.pow10Tab) (hD : LexW.LexD w0) (hM : ExW.ModsAt w0) (hG : LiW.RegsAt w0) (h : RD w0 W g A c l a) (t : S53) (ht : l[a]? = some t) (hk : ¬ t.f0 = 3) (hq : regAt l a = none) (hm : markB l a 40 = false) (s1 s2 : ByteArray) (n m er : Int) (nx : Nat) (hp : expr_Parse.f l (a : Int) = some (s1, s2, n, m, (nx : Int), er)) (he : er = 0) (hsum : line_sum.f s1 s2 n m = some true) (hnx : nx ≤ l.length) (hmn : markB l nx 40 = true) (ho : byAt l nx = none) :
    Calls Tryd.prog 22 #[.pointer (some ⟨g, 0, none⟩)] W fun e W' => e = .returned (.tuple #[.agg (aV (⟨3, 0, ⟨s1, s2, n, m⟩, (⟨#[]⟩ : ByteArray)⟩ : S32)), .int .i64 170]) ∧ FR W W' g ∧ ∃ a', RD w0 W' g A c l a' := by
  have HR := Aside0.mk h
  have HT := Aside0.mk hT
  have HD := Aside0.mk hD
  have HM := Aside0.mk hM
  have HG := Aside0.mk hG
  have HL := Aside0.mk hl
  have HS := Aside0.mk hs
  have hlt : a < l.length := (List.getElem?_eq_some_iff.1 ht).1
  have HTT := Aside0.mk ht
  have HE := Aside0.mk (show decide (l.length ≤ a) = false from decide_eq_false (by omega))
  have p0 := eq_true (show (0 : Int) ≤ (a : Int) by omega)
  have q0 := eq_true (show (a : Int) < (l.length : Int) by omega)
  obtain ⟨a1, e1⟩ : ∃ x, x = a + 1 := ⟨_, rfl⟩
  have hb1 : wrap64 ((a : Int) + 1) = (a1 : Int) := by unfold wrap64; omega
  have E1 := Aside0.mk e1
  have k0 : (t.f0 == 3) = false := beq_eq_false_iff_ne.2 hk
  have HQ := Aside0.mk hq
  have HMK := Aside0.mk hm
  have HP := Aside0.mk hp
  have HA := Aside0.mk ha
  have hb0 : wrap64 ((a : Int) + 0) = (a : Int) := by unfold wrap64; omega
  have r0 : (er == 0) = true := beq_iff_eq.2 he
  have r1 : (er != 0) = false := bne_eq_false_iff_eq.2 he
  have HER := Aside0.mk he
  have HSUM := Aside0.mk hsum
  clear he hsum
  have HMN := Aside0.mk hmn
  have HNX := Aside0.mk hnx
  have hbn : wrap64 ((nx : Int) + 0) = (nx : Int) := by have := hl; unfold wrap64; omega
  clear hmn hnx
  have HO := Aside0.mk ho
  clear ho
  clear h hl ha hs hT hD hM hG hlt hk e1 ht hq hm hp
  go_enter Tryd.func22, Tryd.ntmps22
  go_wp2_with (first | ((with_reducible refine gate_dst (N := 2) rfl ?_); refine box_event ?hg (N := 2) ?hd (cs := #[.int .u8 0, .int .i64 0, .string (⟨#[]⟩ : ByteArray), .string (⟨#[]⟩ : ByteArray), .int .i64 0, .int .u8 0, .string (⟨#[]⟩ : ByteArray)]) (t := 32) ?hr ?_; (case hd => rfl); (case hg => rfl); (case hr => first | (go_simp; done) | (go_simp; rfl)); intro p hg w1 hbox hb; have AR1 : Aside0 (AR w0 W w1 g A c l a p z32) := ⟨⟨FR.of_below hb, by rw [hg]; exact Nat.le_refl _, HR.out.below hb, hbox, by rw [hg]; exact HR.out.bel.size, by rw [hg]; exact Nat.ne_of_lt (blk_lt HR.out.blk)⟩⟩; clear hb hbox hg))
  have c0 := AR1.out.rd.cell0
  have c1 := AR1.out.rd.cell1
  obtain ⟨ad, rfl, x0, x1, x2⟩ := AR1.out.rd.tok2 a t HTT.out
  refine start_ (n := 17) (S := fun w' => w'.cell? ⟨g, 0, none⟩ = some (.slice (some ad) l.length c) ∧ w'.cell? ⟨g, 1, none⟩ = some (.int .i64 (a : Int)) ∧ w'.cell? (ad.add (a * 3)) = some (.int .u8 t.f0) ∧ w'.cell? ⟨(ad.add (a * 3)).block, (ad.add (a * 3)).off + 1, none⟩ = some (.string t.f1) ∧ w'.cell? ⟨(ad.add (a * 3)).block, (ad.add (a * 3)).off + 2, none⟩ = some (.int .i64 t.f2)) (ds := []) #[false, false, false, false, false, false, false, false, false, false, false, false, false, false, false, false, false] (by kernel_rfl) rfl rfl ⟨c0, c1, x0, x1, x2⟩ (fun hHeld => ?_)
  refine pure_ (i := 0) (N := some 6) (v := ?_) (a' := ?_) #[true, false, false, false, false, false, false, false, false, false, false, false, false, false, false, false, false] rfl rfl (by kernel_rfl) (fun _ _ _ h => h) (Or.inl ⟨by rfl, ?_⟩) ?_ ?_
  rotate_left
  · intro w'
    go_simp
    with_reducible rfl
  rotate_left
  · simp only [Act.put, List.setIfInBounds_toArray, List.set_cons_zero, List.set_cons_succ, i64_w, i32_w]
    rfl
  refine one_ (i := 1) (N := some 7) #[true, true, false, false, false, false, false, false, false, false, false, false, false, false, false, false, false] rfl rfl (by kernel_rfl) (by decide) (fun K hK => ?_)
  refine goes_ Tryd.func15 (by kernel_rfl) rfl #[.pointer (some ⟨g, 0, none⟩)] (by rfl) rfl rfl (by simp only [List.map_toArray, List.map_cons, List.map_nil]; rfl) ?_
  with_reducible refine (end_walk w0 _ g (some ad) c l a AR1.out.rd.drew false HE.out).mono ?_
  rintro e w5 ⟨rfl, ⟨nd, rfl⟩⟩
  refine ⟨_, rfl, ?_⟩
  have AR2 := Aside0.mk (AR1.out.drew.drewN nd)
  refine hK.out _ _ ⟨hHeld.1, hHeld.2.1, hHeld.2.2.1, hHeld.2.2.2.1, hHeld.2.2.2.2⟩ (fun hHeld => ?_)
  clear hK K
  refine norm_ (a' := ?_) ?_ ?_
  rotate_left
  · show Act.put _ (some 7) _ = _
    simp only [Act.put, List.setIfInBounds_toArray, List.set_cons_zero, List.set_cons_succ, i64_w, i32_w]
    rfl
  refine pure_ (i := 2) (N := some 8) (v := ?_) (a' := ?_) #[true, true, true, false, false, false, false, false, false, false, false, false, false, false, false, false, false] rfl rfl (by kernel_rfl) (fun _ _ _ h => h) (Or.inl ⟨by rfl, ?_⟩) ?_ ?_
  rotate_left
  · intro w'
    go_simp
    with_reducible rfl
  rotate_left
  · simp only [Act.put, List.setIfInBounds_toArray, List.set_cons_zero, List.set_cons_succ, i64_w, i32_w]
    rfl
  refine pure_ (i := 3) (N := some 9) (v := ?_) (a' := ?_) #[true, true, true, true, false, false, false, false, false, false, false, false, false, false, false, false, false] rfl rfl (by kernel_rfl) (fun _ _ _ h => h) (Or.inl ⟨by rfl, ?_⟩) ?_ ?_
  rotate_left
  · intro w'
    go_simp
    with_reducible rfl
  rotate_left
  · simp only [Act.put, List.setIfInBounds_toArray, List.set_cons_zero, List.set_cons_succ, i64_w, i32_w]
    rfl
  refine pure_ (i := 4) (N := some 10) (v := ?_) (a' := ?_) #[true, true, true, true, true, false, false, false, false, false, false, false, false, false, false, false, false] rfl rfl (by kernel_rfl) (fun _ _ _ h => h) (Or.inl ⟨by rfl, ?_⟩) ?_ ?_
  rotate_left
  · intro w'
    go_simp
    with_reducible rfl
  rotate_left
  · simp only [Act.put, List.setIfInBounds_toArray, List.set_cons_zero, List.set_cons_succ, i64_w, i32_w]
    rfl
  refine pure_ (i := 5) (N := some 11) (v := ?_) (a' := ?_) #[true, true, true, true, true, true, false, false, false, false, false, false, false, false, false, false, false] rfl rfl (by kernel_rfl) (fun _ _ _ h => h) (Or.inl ⟨by rfl, ?_⟩) ?_ ?_
  rotate_left
  · intro w'
    go_simp
    with_reducible rfl
  rotate_left
  · simp only [Act.put, List.setIfInBounds_toArray, List.set_cons_zero, List.set_cons_succ, i64_w, i32_w]
    rfl
  refine pure_ (i := 6) (N := some 12) (v := ?_) (a' := ?_) #[true, true, true, true, true, true, true, false, false, false, false, false, false, false, false, false, false] rfl rfl (by kernel_rfl) (fun _ _ _ h => h) (Or.inl ⟨by rfl, ?_⟩) ?_ ?_
  rotate_left
  · intro w'
    go_simp
    with_reducible rfl
  rotate_left
  · simp only [Act.put, List.setIfInBounds_toArray, List.set_cons_zero, List.set_cons_succ, i64_w, i32_w]
    rfl
  refine pure_ (i := 8) (N := some 14) (v := ?_) (a' := ?_) #[true, true, true, true, true, true, true, false, true, false, false, false, false, false, false, false, false] rfl rfl (by kernel_rfl) (fun _ _ _ h => h) (Or.inl ⟨by rfl, ?_⟩) ?_ ?_
  rotate_left
  · intro w'
    go_simp
    with_reducible rfl
  rotate_left
  · simp only [Act.put, List.setIfInBounds_toArray, List.set_cons_zero, List.set_cons_succ, i64_w, i32_w]
    rfl
  refine pure_ (i := 9) (N := some 15) (v := ?_) (a' := ?_) #[true, true, true, true, true, true, true, false, true, true, false, false, false, false, false, false, false] rfl rfl (by kernel_rfl) (fun _ _ _ h => h) (Or.inl ⟨by rfl, ?_⟩) ?_ ?_
  rotate_left
  · intro w'
    go_simp
    with_reducible rfl
  rotate_left
  · simp only [Act.put, List.setIfInBounds_toArray, List.set_cons_zero, List.set_cons_succ, i64_w, i32_w]
    rfl
  refine pure_ (i := 10) (N := some 16) (v := ?_) (a' := ?_) #[true, true, true, true, true, true, true, false, true, true, true, false, false, false, false, false, false] rfl rfl (by kernel_rfl) (fun _ _ _ h => h) (Or.inl ⟨by rfl, ?_⟩) ?_ ?_
  rotate_left
  · intro w'
    go_simp
    with_reducible rfl
  rotate_left
  · simp only [Act.put, List.setIfInBounds_toArray, List.set_cons_zero, List.set_cons_succ, i64_w, i32_w]
    rfl
  refine take_ (i := 7) (N := some 13) (v := ?_) (a' := ?_) #[true, true, true, true, true, true, true, true, true, true, true, false, false, false, false, false, false] rfl rfl (by kernel_rfl) (fun _ _ _ h => h) (Or.inl ⟨by rfl, ?_⟩) hHeld ?_ ?_
  rotate_left
  · rintro w' ⟨s0, s1, s2, s3, s4⟩
    go_simp
    with_reducible rfl
  rotate_left
  · simp only [Act.put, List.setIfInBounds_toArray, List.set_cons_zero, List.set_cons_succ, i64_w, i32_w]
    rfl
  refine take_ (i := 11) (N := some 17) (v := ?_) (a' := ?_) #[true, true, true, true, true, true, true, true, true, true, true, true, false, false, false, false, false] rfl rfl (by kernel_rfl) (fun _ _ _ h => h) (Or.inl ⟨by rfl, ?_⟩) hHeld ?_ ?_
  rotate_left
  · rintro w' ⟨s0, s1, s2, s3, s4⟩
    go_simp
    with_reducible rfl
  rotate_left
  · simp only [Act.put, List.setIfInBounds_toArray, List.set_cons_zero, List.set_cons_succ, i64_w, i32_w]
    rfl
  refine pure_ (i := 12) (N := some 18) (v := ?_) (a' := ?_) #[true, true, true, true, true, true, true, true, true, true, true, true, true, false, false, false, false] rfl rfl (by kernel_rfl) (fun _ _ _ h => h) (Or.inl ⟨by rfl, ?_⟩) ?_ ?_
  rotate_left
  · intro w'
    go_simp
    with_reducible rfl
  rotate_left
  · simp only [Act.put, List.setIfInBounds_toArray, List.set_cons_zero, List.set_cons_succ, i64_w, i32_w]
    rfl
  refine pure_ (i := 13) (N := some 19) (v := ?_) (a' := ?_) #[true, true, true, true, true, true, true, true, true, true, true, true, true, true, false, false, false] rfl rfl (by kernel_rfl) (fun _ _ _ h => h) (Or.inl ⟨by rfl, ?_⟩) ?_ ?_
  rotate_left
  · intro w'
    go_simp
    with_reducible rfl
  rotate_left
  · simp only [Act.put, List.setIfInBounds_toArray, List.set_cons_zero, List.set_cons_succ, i64_w, i32_w]
    rfl
  refine take_ (i := 14) (N := some 20) (v := ?_) (a' := ?_) #[true, true, true, true, true, true, true, true, true, true, true, true, true, true, true, false, false] rfl rfl (by kernel_rfl) (fun _ _ _ h => h) (Or.inl ⟨by rfl, ?_⟩) hHeld ?_ ?_
  rotate_left
  · rintro w' ⟨s0, s1, s2, s3, s4⟩
    go_simp
    with_reducible rfl
  rotate_left
  · simp only [Act.put, List.setIfInBounds_toArray, List.set_cons_zero, List.set_cons_succ, i64_w, i32_w]
    rfl
  refine pure_ (i := 15) (N := some 21) (v := ?_) (a' := ?_) #[true, true, true, true, true, true, true, true, true, true, true, true, true, true, true, true, false] rfl rfl (by kernel_rfl) (fun _ _ _ h => h) (Or.inl ⟨by rfl, ?_⟩) ?_ ?_
  rotate_left
  · intro w'
    go_simp
    with_reducible rfl
  rotate_left
  · simp only [Act.put, List.setIfInBounds_toArray, List.set_cons_zero, List.set_cons_succ, i64_w, i32_w]
    rfl
  refine pure_ (i := 16) (N := some 22) (v := ?_) (a' := ?_) #[true, true, true, true, true, true, true, true, true, true, true, true, true, true, true, true, true] rfl rfl (by kernel_rfl) (fun _ _ _ h => h) (Or.inl ⟨by rfl, ?_⟩) ?_ ?_
  rotate_left
  · intro w'
    go_simp
    with_reducible rfl
  rotate_left
  · simp only [Act.put, List.setIfInBounds_toArray, List.set_cons_zero, List.set_cons_succ, i64_w, i32_w]
    rfl
  refine done_ (by kernel_rfl) ?_
  have AR3 := Aside0.mk (AR1.out.drewN (1 + nd))
  go_wp2_with (first | (go_at_call 35; (with_reducible refine (register_walk w0 _ g (some ad) c l a HL.out HS.out HT.out HG.out AR3.out.rd none HQ.out).mono ?_); rintro e w2 ⟨rfl, hp, hf⟩; have AR4 := Aside0.mk (AR3.out.step hf hp); have v0 := (blk_cell AR4.out.box 0); have v1 := (blk_cell AR4.out.box 1); have v2 := (blk_cell AR4.out.box 2); have v3 := (blk_cell AR4.out.box 3); have v4 := (blk_cell AR4.out.box 4); have v5 := (blk_cell AR4.out.box 5); have v6 := (blk_cell AR4.out.box 6); have vf0 := blk_frozen AR4.out.box 0; have vf1 := blk_frozen AR4.out.box 1; have vf2 := blk_frozen AR4.out.box 2; have vf3 := blk_frozen AR4.out.box 3; have vf4 := blk_frozen AR4.out.box 4; have vf5 := blk_frozen AR4.out.box 5; have vf6 := blk_frozen AR4.out.box 6; simp only [aV, z32, z30, List.getElem?_toArray, List.getElem?_cons_zero, List.getElem?_cons_succ] at v0 v1 v2 v3 v4 v5 v6; clear hp hf) | (go_at_call 20; (with_reducible refine (is_walk w0 _ g (some ad) c l a a 0 40 hb0 (AR4.out.setx (y := (⟨2, 0, z30, (⟨#[]⟩ : ByteArray)⟩ : S32)) 0 (.int .u8 2) rfl).rd false HMK.out).mono ?_); rintro e w3 ⟨rfl, ⟨nd2, rfl⟩⟩; skip))
  obtain ⟨w5, hw5, AR7⟩ : ∃ V, ((w2.setCell ⟨p, 0, none⟩ (.int .u8 2)).drewN nd2) = V ∧ Aside0 (AR w0 W V g (some ad) c l a p (⟨2, 0, z30, (⟨#[]⟩ : ByteArray)⟩ : S32)) := ⟨_, rfl, ⟨(AR4.out.setx (y := (⟨2, 0, z30, (⟨#[]⟩ : ByteArray)⟩ : S32)) 0 (.int .u8 2) rfl).drewN nd2⟩⟩
  rw [hw5]
  clear hw5 AR1 AR2 AR3 AR4 c0 c1 x0 x1 x2 v0 v1 v2 v3 v4 v5 v6 vf0 vf1 vf2 vf3 vf4 vf5 vf6
  have g0 := AR7.out.rd.cell0
  have g1 := AR7.out.rd.cell1
  refine start_ (n := 20) (S := fun w' => w'.cell? ⟨g, 0, none⟩ = some (.slice (some ad) l.length c) ∧ w'.cell? ⟨g, 1, none⟩ = some (.int .i64 (a : Int))) (ds := [15, 18]) #[false, false, false, false, false, false, false, false, false, false, false, false, false, false, false, false, false, false, false, false] (by kernel_rfl) rfl rfl ⟨g0, g1⟩ (fun hHeld => ?_)
  refine pure_ (i := 0) (N := some 55) (v := ?_) (a' := ?_) #[true, false, false, false, false, false, false, false, false, false, false, false, false, false, false, false, false, false, false, false] rfl rfl (by kernel_rfl) (fun _ _ _ h => h) (Or.inl ⟨by rfl, ?_⟩) ?_ ?_
  rotate_left
  · intro w'
    go_simp
    with_reducible rfl
  rotate_left
  · simp only [Act.put, List.setIfInBounds_toArray, List.set_cons_zero, List.set_cons_succ, i64_w, i32_w]
    rfl
  refine pure_ (i := 1) (N := some 56) (v := ?_) (a' := ?_) #[true, true, false, false, false, false, false, false, false, false, false, false, false, false, false, false, false, false, false, false] rfl rfl (by kernel_rfl) (fun _ _ _ h => h) (Or.inl ⟨by rfl, ?_⟩) ?_ ?_
  rotate_left
  · intro w'
    go_simp
    with_reducible rfl
  rotate_left
  · simp only [Act.put, List.setIfInBounds_toArray, List.set_cons_zero, List.set_cons_succ, i64_w, i32_w]
    rfl
  refine pure_ (i := 2) (N := some 57) (v := ?_) (a' := ?_) #[true, true, true, false, false, false, false, false, false, false, false, false, false, false, false, false, false, false, false, false] rfl rfl (by kernel_rfl) (fun _ _ _ h => h) (Or.inl ⟨by rfl, ?_⟩) ?_ ?_
  rotate_left
  · intro w'
    go_simp
    with_reducible rfl
  rotate_left
  · simp only [Act.put, List.setIfInBounds_toArray, List.set_cons_zero, List.set_cons_succ, i64_w, i32_w]
    rfl
  refine pure_ (i := 3) (N := some 58) (v := ?_) (a' := ?_) #[true, true, true, true, false, false, false, false, false, false, false, false, false, false, false, false, false, false, false, false] rfl rfl (by kernel_rfl) (fun _ _ _ h => h) (Or.inl ⟨by rfl, ?_⟩) ?_ ?_
  rotate_left
  · intro w'
    go_simp
    with_reducible rfl
  rotate_left
  · simp only [Act.put, List.setIfInBounds_toArray, List.set_cons_zero, List.set_cons_succ, i64_w, i32_w]
    rfl
  refine pure_ (i := 5) (N := some 60) (v := ?_) (a' := ?_) #[true, true, true, true, false, true, false, false, false, false, false, false, false, false, false, false, false, false, false, false] rfl rfl (by kernel_rfl) (fun _ _ _ h => h) (Or.inl ⟨by rfl, ?_⟩) ?_ ?_
  rotate_left
  · intro w'
    go_simp
    with_reducible rfl
  rotate_left
  · simp only [Act.put, List.setIfInBounds_toArray, List.set_cons_zero, List.set_cons_succ, i64_w, i32_w]
    rfl
  refine pure_ (i := 6) (N := some 61) (v := ?_) (a' := ?_) #[true, true, true, true, false, true, true, false, false, false, false, false, false, false, false, false, false, false, false, false] rfl rfl (by kernel_rfl) (fun _ _ _ h => h) (Or.inl ⟨by rfl, ?_⟩) ?_ ?_
  rotate_left
  · intro w'
    go_simp
    with_reducible rfl
  rotate_left
  · simp only [Act.put, List.setIfInBounds_toArray, List.set_cons_zero, List.set_cons_succ, i64_w, i32_w]
    rfl
  refine pure_ (i := 7) (N := some 62) (v := ?_) (a' := ?_) #[true, true, true, true, false, true, true, true, false, false, false, false, false, false, false, false, false, false, false, false] rfl rfl (by kernel_rfl) (fun _ _ _ h => h) (Or.inl ⟨by rfl, ?_⟩) ?_ ?_
  rotate_left
  · intro w'
    go_simp
    with_reducible rfl
  rotate_left
  · simp only [Act.put, List.setIfInBounds_toArray, List.set_cons_zero, List.set_cons_succ, i64_w, i32_w]
    rfl
  refine take_ (i := 4) (N := some 59) (v := ?_) (a' := ?_) #[true, true, true, true, true, true, true, true, false, false, false, false, false, false, false, false, false, false, false, false] rfl rfl (by kernel_rfl) (fun _ _ _ h => h) (Or.inl ⟨by rfl, ?_⟩) hHeld ?_ ?_
  rotate_left
  · rintro w' ⟨s0, s1⟩
    go_simp
    with_reducible rfl
  rotate_left
  · simp only [Act.put, List.setIfInBounds_toArray, List.set_cons_zero, List.set_cons_succ, i64_w, i32_w]
    rfl
  refine take_ (i := 8) (N := some 63) (v := ?_) (a' := ?_) #[true, true, true, true, true, true, true, true, true, false, false, false, false, false, false, false, false, false, false, false] rfl rfl (by kernel_rfl) (fun _ _ _ h => h) (Or.inl ⟨by rfl, ?_⟩) hHeld ?_ ?_
  rotate_left
  · rintro w' ⟨s0, s1⟩
    go_simp
    with_reducible rfl
  rotate_left
  · simp only [Act.put, List.setIfInBounds_toArray, List.set_cons_zero, List.set_cons_succ, i64_w, i32_w]
    rfl
  refine one_ (i := 9) (N := some 64) #[true, true, true, true, true, true, true, true, true, true, false, false, false, false, false, false, false, false, false, false] rfl rfl (by kernel_rfl) (by decide) (fun K hK => ?_)
  have hT9 := Lib.tabBelow_of_tabIs HT.out _ AR7.out.drew.rd.bel
  refine goes_ Tryd.func36 (by kernel_rfl) rfl #[.slice (some ad) l.length c, .int .i64 (a : Int)] (by rfl) rfl rfl (by simp only [List.map_toArray, List.map_cons, List.map_nil]; rfl) ?_
  with_reducible refine (expr_Parse.calls (some ad) c l (a : Int) s1 s2 n m (nx : Int) er _ (Kd.C_below AR7.out.rd.row AR7.out.drew.rd.bel) AR7.out.rd.cap hT9 (HD.out.below AR7.out.drew.rd.bel) (HM.out.below AR7.out.drew.rd.bel) HP.out).mono ?_
  rintro e w6 ⟨rfl, hb⟩
  refine ⟨_, rfl, ?_⟩
  have AR8 := Aside0.mk (AR7.out.drew.below hb)
  refine hK.out _ _ ⟨((hb.cell (World.block_lt_of_cell? _ _ hHeld.1)).trans hHeld.1), ((hb.cell (World.block_lt_of_cell? _ _ hHeld.2)).trans hHeld.2)⟩ (fun hHeld => ?_)
  clear hK K
  refine norm_ (a' := ?_) ?_ ?_
  rotate_left
  · show Act.put _ (some 64) _ = _
    simp only [Act.put, List.setIfInBounds_toArray, List.set_cons_zero, List.set_cons_succ, i64_w, i32_w]
    rfl
  refine pure_ (i := 10) (N := some 54) (v := ?_) (a' := ?_) #[true, true, true, true, true, true, true, true, true, true, true, false, false, false, false, false, false, false, false, false] rfl rfl (by kernel_rfl) (fun _ _ _ h => h) (Or.inl ⟨by rfl, ?_⟩) ?_ ?_
  rotate_left
  · intro w'
    go_simp
    with_reducible rfl
  rotate_left
  · simp only [Act.put, List.setIfInBounds_toArray, List.set_cons_zero, List.set_cons_succ, i64_w, i32_w]
    rfl
  refine pure_ (i := 11) (N := some 65) (v := ?_) (a' := ?_) #[true, true, true, true, true, true, true, true, true, true, true, true, false, false, false, false, false, false, false, false] rfl rfl (by kernel_rfl) (fun _ _ _ h => h) (Or.inl ⟨by rfl, ?_⟩) ?_ ?_
  rotate_left
  · intro w'
    go_simp
    with_reducible rfl
  rotate_left
  · simp only [Act.put, List.setIfInBounds_toArray, List.set_cons_zero, List.set_cons_succ, i64_w, i32_w]
    rfl
  refine pure_ (i := 12) (N := some 66) (v := ?_) (a' := ?_) #[true, true, true, true, true, true, true, true, true, true, true, true, true, false, false, false, false, false, false, false] rfl rfl (by kernel_rfl) (fun _ _ _ h => h) (Or.inl ⟨by rfl, ?_⟩) ?_ ?_
  rotate_left
  · intro w'
    go_simp
    with_reducible rfl
  rotate_left
  · simp only [Act.put, List.setIfInBounds_toArray, List.set_cons_zero, List.set_cons_succ, i64_w, i32_w]
    rfl
  refine pure_ (i := 13) (N := some 67) (v := ?_) (a' := ?_) #[true, true, true, true, true, true, true, true, true, true, true, true, true, true, false, false, false, false, false, false] rfl rfl (by kernel_rfl) (fun _ _ _ h => h) (Or.inl ⟨by rfl, ?_⟩) ?_ ?_
  rotate_left
  · intro w'
    go_simp
    with_reducible rfl
  rotate_left
  · simp only [Act.put, List.setIfInBounds_toArray, List.set_cons_zero, List.set_cons_succ, i64_w, i32_w]
    rfl
  refine pure_ (i := 14) (N := some 68) (v := ?_) (a' := ?_) #[true, true, true, true, true, true, true, true, true, true, true, true, true, true, true, false, false, false, false, false] rfl rfl (by kernel_rfl) (fun _ _ _ h => h) (Or.inl ⟨by rfl, ?_⟩) ?_ ?_
  rotate_left
  · intro w'
    go_simp
    with_reducible rfl
  rotate_left
  · simp only [Act.put, List.setIfInBounds_toArray, List.set_cons_zero, List.set_cons_succ, i64_w, i32_w]
    rfl
  refine last_ (i := 15) (N := none) #[true, true, true, true, true, true, true, true, true, true, true, true, true, true, true, true, false, false, false, false] rfl rfl (by kernel_rfl) (by decide) (fun K hK => ?_)
  have v0 := (blk_cell AR8.out.box 0)
  have v1 := (blk_cell AR8.out.box 1)
  have v2 := (blk_cell AR8.out.box 2)
  have v3 := (blk_cell AR8.out.box 3)
  have v4 := (blk_cell AR8.out.box 4)
  have v5 := (blk_cell AR8.out.box 5)
  have v6 := (blk_cell AR8.out.box 6)
  have vf0 := blk_frozen AR8.out.box 0
  have vf1 := blk_frozen AR8.out.box 1
  have vf2 := blk_frozen AR8.out.box 2
  have vf3 := blk_frozen AR8.out.box 3
  have vf4 := blk_frozen AR8.out.box 4
  have vf5 := blk_frozen AR8.out.box 5
  have vf6 := blk_frozen AR8.out.box 6
  simp only [aV, z32, z30, List.getElem?_toArray, List.getElem?_cons_zero, List.getElem?_cons_succ] at v0 v1 v2 v3 v4 v5 v6
  refine skip_ (w1 := ?_) (by rfl) rfl ?_ ?_
  rotate_left
  · go_simp
    rfl
  refine hK.out _ _ ?_
  clear hK K
  refine pure_ (i := 16) (N := some 69) (v := ?_) (a' := ?_) #[true, true, true, true, true, true, true, true, true, true, true, true, true, true, true, true, true, false, false, false] rfl rfl (by kernel_rfl) (fun _ _ _ h => h) (Or.inl ⟨by rfl, ?_⟩) ?_ ?_
  rotate_left
  · intro w'
    go_simp
    with_reducible rfl
  rotate_left
  · simp only [Act.put, List.setIfInBounds_toArray, List.set_cons_zero, List.set_cons_succ, i64_w, i32_w]
    rfl
  refine pure_ (i := 17) (N := some 70) (v := ?_) (a' := ?_) #[true, true, true, true, true, true, true, true, true, true, true, true, true, true, true, true, true, true, false, false] rfl rfl (by kernel_rfl) (fun _ _ _ h => h) (Or.inl ⟨by rfl, ?_⟩) ?_ ?_
  rotate_left
  · intro w'
    go_simp
    with_reducible rfl
  rotate_left
  · simp only [Act.put, List.setIfInBounds_toArray, List.set_cons_zero, List.set_cons_succ, i64_w, i32_w]
    rfl
  refine last_ (i := 18) (N := none) #[true, true, true, true, true, true, true, true, true, true, true, true, true, true, true, true, true, true, true, false] rfl rfl (by kernel_rfl) (by decide) (fun K hK => ?_)
  have y1 := AR8.out.rd.cell1
  have yf := blk_frozen AR8.out.rd.blk 1
  have ng : g ≠ p := AR8.out.ne
  have ng2 : p ≠ g := ng.symm
  refine skip_ (w1 := ?_) (by rfl) rfl ?_ ?_
  rotate_left
  · go_simp
    rfl
  refine hK.out _ _ ?_
  clear hK K
  refine pure_ (i := 19) (N := some 3) (v := ?_) (a' := ?_) #[true, true, true, true, true, true, true, true, true, true, true, true, true, true, true, true, true, true, true, true] rfl rfl (by kernel_rfl) (fun _ _ _ h => h) (Or.inl ⟨by rfl, ?_⟩) ?_ ?_
  rotate_left
  · intro w'
    go_simp
    with_reducible rfl
  rotate_left
  · simp only [Act.put, List.setIfInBounds_toArray, List.set_cons_zero, List.set_cons_succ, i64_w, i32_w]
    rfl
  refine done_ (by kernel_rfl) ?_
  obtain ⟨w9, hw9, AR9⟩ : ∃ V, (((((w6.setCell ⟨p, 2, none⟩ (.string s1)).setCell ⟨p, 3, none⟩ (.string s2)).setCell ⟨p, 4, none⟩ (.int .i64 n)).setCell ⟨p, 5, none⟩ (.int .u8 m)).setCell ⟨g, 1, none⟩ (.int .i64 (nx : Int))) = V ∧ Aside0 (AR w0 W V g (some ad) c l nx p (⟨2, 0, ⟨s1, s2, n, m⟩, (⟨#[]⟩ : ByteArray)⟩ : S32)) := ⟨_, rfl, ⟨((((AR8.out.setx (y := ⟨2, 0, ⟨s1, (⟨#[]⟩ : ByteArray), 0, 0⟩, (⟨#[]⟩ : ByteArray)⟩) 2 (.string s1) rfl).setx (y := ⟨2, 0, ⟨s1, s2, 0, 0⟩, (⟨#[]⟩ : ByteArray)⟩) 3 (.string s2) rfl).setx (y := ⟨2, 0, ⟨s1, s2, n, 0⟩, (⟨#[]⟩ : ByteArray)⟩) 4 (.int .i64 n) rfl).setx (y := (⟨2, 0, ⟨s1, s2, n, m⟩, (⟨#[]⟩ : ByteArray)⟩ : S32)) 5 (.int .u8 m) rfl).seti nx⟩⟩
  rw [hw9]
  clear hw9 AR7 AR8 g0 g1
  have q2 := (blk_cell AR9.out.box 2)
  have q3 := (blk_cell AR9.out.box 3)
  have q4 := (blk_cell AR9.out.box 4)
  have q5 := (blk_cell AR9.out.box 5)
  simp only [aV, List.getElem?_toArray, List.getElem?_cons_zero, List.getElem?_cons_succ] at q2 q3 q4 q5
  go_wp2_with (first | (go_at_call 37; have hTs := Lib.tabBelow_of_tabIs HT.out _ AR9.out.rd.bel; (with_reducible refine (line_sum.calls s1 s2 n m true _ hTs (HG.out.below AR9.out.rd.bel) HSUM.out).mono ?_); rintro e w10 ⟨rfl, hb⟩; have AR10 := Aside0.mk (AR9.out.below hb); have v0 := (blk_cell AR10.out.box 0); have v1 := (blk_cell AR10.out.box 1); have v2 := (blk_cell AR10.out.box 2); have v3 := (blk_cell AR10.out.box 3); have v4 := (blk_cell AR10.out.box 4); have v5 := (blk_cell AR10.out.box 5); have v6 := (blk_cell AR10.out.box 6); have vf0 := blk_frozen AR10.out.box 0; have vf1 := blk_frozen AR10.out.box 1; have vf2 := blk_frozen AR10.out.box 2; have vf3 := blk_frozen AR10.out.box 3; have vf4 := blk_frozen AR10.out.box 4; have vf5 := blk_frozen AR10.out.box 5; have vf6 := blk_frozen AR10.out.box 6; simp only [aV, List.getElem?_toArray, List.getElem?_cons_zero, List.getElem?_cons_succ] at v0 v1 v2 v3 v4 v5 v6; clear hb hTs) | (go_at_call 20; (with_reducible refine (is_walk w0 _ g (some ad) c l nx nx 0 40 hbn AR10.out.rd true HMN.out).mono ?_); rintro e w11 ⟨rfl, ⟨nd3, rfl⟩⟩; skip) | (go_at_call 38; (with_reducible refine (by_walk w0 _ g (some ad) c l nx HL.out (by have := HNX.out; have := HL.out; omega) HS.out HT.out HG.out ((AR10.out.drewN nd3).setx (y := (⟨3, 0, ⟨s1, s2, n, m⟩, (⟨#[]⟩ : ByteArray)⟩ : S32)) 0 (.int .u8 3) rfl).rd _ HO.out).mono ?_); rintro e w4 ⟨rfl, hf, a', hp, hq⟩; have AR14 := Aside0.mk (((AR10.out.drewN nd3).setx (y := (⟨3, 0, ⟨s1, s2, n, m⟩, (⟨#[]⟩ : ByteArray)⟩ : S32)) 0 (.int .u8 3) rfl).step hf hp); have HQ8 := Aside0.mk hq; have v0 := (blk_cell AR14.out.box 0); have v1 := (blk_cell AR14.out.box 1); have v2 := (blk_cell AR14.out.box 2); have v3 := (blk_cell AR14.out.box 3); have v4 := (blk_cell AR14.out.box 4); have v5 := (blk_cell AR14.out.box 5); have v6 := (blk_cell AR14.out.box 6); have vf0 := blk_frozen AR14.out.box 0; have vf1 := blk_frozen AR14.out.box 1; have vf2 := blk_frozen AR14.out.box 2; have vf3 := blk_frozen AR14.out.box 3; have vf4 := blk_frozen AR14.out.box 4; have vf5 := blk_frozen AR14.out.box 5; have vf6 := blk_frozen AR14.out.box 6; simp only [aV, List.getElem?_toArray, List.getElem?_cons_zero, List.getElem?_cons_succ] at v0 v1 v2 v3 v4 v5 v6; clear hp hf hq))
  have AR15 := Aside0.mk (AR14.out.setx (y := (⟨3, 0, ⟨s1, s2, n, m⟩, (⟨#[]⟩ : ByteArray)⟩ : S32)) 1 (.int .i64 0) rfl)
  refine bodyPost_ret (results_ct rfl _ _ p 32 (aV (⟨3, 0, ⟨s1, s2, n, m⟩, (⟨#[]⟩ : ByteArray)⟩ : S32)) (0, 0) _ rfl (AR15.out.box) Tryd.underlying32 rfl (by kernel_rfl)) rfl ?_
  exact ⟨rfl, AR15.out.fr, _, AR15.out.rd⟩

set_option maxHeartbeats 8000000 in
set_option maxRecDepth 100000 in
theorem arg_pmem_some (w0 W : World) (g : Nat) (A : Option Addr) (c : Nat) (l : List S53) (a : Nat) (hl : l.length ≤ 1000000) (ha : a ≤ l.length) (hs : ∀ x ∈ l, x.f1.size ≤ 1000000) (hT : Lib.TabIs Tryd.prog w0 "internal/strconv.uint64pow10" .u64 Lib.pow10Tab) (hD : LexW.LexD w0) (hM : ExW.ModsAt w0) (hG : LiW.RegsAt w0) (h : RD w0 W g A c l a) (t : S53) (ht : l[a]? = some t) (hk : ¬ t.f0 = 3) (hq : regAt l a = none) (hm : markB l a 40 = false) (s1 s2 : ByteArray) (n m er : Int) (nx : Nat) (hp : expr_Parse.f l (a : Int) = some (s1, s2, n, m, (nx : Int), er)) (he : er = 0) (hsum : line_sum.f s1 s2 n m = some true) (hnx : nx ≤ l.length) (hmn : markB l nx 40 = true) (k : Nat) (ho : byAt l nx = (some k)) :
    Calls Tryd.prog 22 #[.pointer (some ⟨g, 0, none⟩)] W fun e W' => e = .returned (.tuple #[.agg (aV (⟨3, (k : Int), ⟨s1, s2, n, m⟩, (⟨#[]⟩ : ByteArray)⟩ : S32)), .int .i64 0]) ∧ FR W W' g ∧ RD w0 W' g A c l (nx + 3) := by
  have HR := Aside0.mk h
  have HT := Aside0.mk hT
  have HD := Aside0.mk hD
  have HM := Aside0.mk hM
  have HG := Aside0.mk hG
  have HL := Aside0.mk hl
  have HS := Aside0.mk hs
  have hlt : a < l.length := (List.getElem?_eq_some_iff.1 ht).1
  have HTT := Aside0.mk ht
  have HE := Aside0.mk (show decide (l.length ≤ a) = false from decide_eq_false (by omega))
  have p0 := eq_true (show (0 : Int) ≤ (a : Int) by omega)
  have q0 := eq_true (show (a : Int) < (l.length : Int) by omega)
  obtain ⟨a1, e1⟩ : ∃ x, x = a + 1 := ⟨_, rfl⟩
  have hb1 : wrap64 ((a : Int) + 1) = (a1 : Int) := by unfold wrap64; omega
  have E1 := Aside0.mk e1
  have k0 : (t.f0 == 3) = false := beq_eq_false_iff_ne.2 hk
  have HQ := Aside0.mk hq
  have HMK := Aside0.mk hm
  have HP := Aside0.mk hp
  have HA := Aside0.mk ha
  have hb0 : wrap64 ((a : Int) + 0) = (a : Int) := by unfold wrap64; omega
  have r0 : (er == 0) = true := beq_iff_eq.2 he
  have r1 : (er != 0) = false := bne_eq_false_iff_eq.2 he
  have HER := Aside0.mk he
  have HSUM := Aside0.mk hsum
  clear he hsum
  have HMN := Aside0.mk hmn
  have HNX := Aside0.mk hnx
  have hbn : wrap64 ((nx : Int) + 0) = (nx : Int) := by have := hl; unfold wrap64; omega
  clear hmn hnx
  have HO := Aside0.mk ho
  clear ho
  clear h hl ha hs hT hD hM hG hlt hk e1 ht hq hm hp
  go_enter Tryd.func22, Tryd.ntmps22
  go_wp2_with (first | ((with_reducible refine gate_dst (N := 2) rfl ?_); refine box_event ?hg (N := 2) ?hd (cs := #[.int .u8 0, .int .i64 0, .string (⟨#[]⟩ : ByteArray), .string (⟨#[]⟩ : ByteArray), .int .i64 0, .int .u8 0, .string (⟨#[]⟩ : ByteArray)]) (t := 32) ?hr ?_; (case hd => rfl); (case hg => rfl); (case hr => first | (go_simp; done) | (go_simp; rfl)); intro p hg w1 hbox hb; have AR1 : Aside0 (AR w0 W w1 g A c l a p z32) := ⟨⟨FR.of_below hb, by rw [hg]; exact Nat.le_refl _, HR.out.below hb, hbox, by rw [hg]; exact HR.out.bel.size, by rw [hg]; exact Nat.ne_of_lt (blk_lt HR.out.blk)⟩⟩; clear hb hbox hg))
  have c0 := AR1.out.rd.cell0
  have c1 := AR1.out.rd.cell1
  obtain ⟨ad, rfl, x0, x1, x2⟩ := AR1.out.rd.tok2 a t HTT.out
  refine start_ (n := 17) (S := fun w' => w'.cell? ⟨g, 0, none⟩ = some (.slice (some ad) l.length c) ∧ w'.cell? ⟨g, 1, none⟩ = some (.int .i64 (a : Int)) ∧ w'.cell? (ad.add (a * 3)) = some (.int .u8 t.f0) ∧ w'.cell? ⟨(ad.add (a * 3)).block, (ad.add (a * 3)).off + 1, none⟩ = some (.string t.f1) ∧ w'.cell? ⟨(ad.add (a * 3)).block, (ad.add (a * 3)).off + 2, none⟩ = some (.int .i64 t.f2)) (ds := []) #[false, false, false, false, false, false, false, false, false, false, false, false, false, false, false, false, false] (by kernel_rfl) rfl rfl ⟨c0, c1, x0, x1, x2⟩ (fun hHeld => ?_)
  refine pure_ (i := 0) (N := some 6) (v := ?_) (a' := ?_) #[true, false, false, false, false, false, false, false, false, false, false, false, false, false, false, false, false] rfl rfl (by kernel_rfl) (fun _ _ _ h => h) (Or.inl ⟨by rfl, ?_⟩) ?_ ?_
  rotate_left
  · intro w'
    go_simp
    with_reducible rfl
  rotate_left
  · simp only [Act.put, List.setIfInBounds_toArray, List.set_cons_zero, List.set_cons_succ, i64_w, i32_w]
    rfl
  refine one_ (i := 1) (N := some 7) #[true, true, false, false, false, false, false, false, false, false, false, false, false, false, false, false, false] rfl rfl (by kernel_rfl) (by decide) (fun K hK => ?_)
  refine goes_ Tryd.func15 (by kernel_rfl) rfl #[.pointer (some ⟨g, 0, none⟩)] (by rfl) rfl rfl (by simp only [List.map_toArray, List.map_cons, List.map_nil]; rfl) ?_
  with_reducible refine (end_walk w0 _ g (some ad) c l a AR1.out.rd.drew false HE.out).mono ?_
  rintro e w5 ⟨rfl, ⟨nd, rfl⟩⟩
  refine ⟨_, rfl, ?_⟩
  have AR2 := Aside0.mk (AR1.out.drew.drewN nd)
  refine hK.out _ _ ⟨hHeld.1, hHeld.2.1, hHeld.2.2.1, hHeld.2.2.2.1, hHeld.2.2.2.2⟩ (fun hHeld => ?_)
  clear hK K
  refine norm_ (a' := ?_) ?_ ?_
  rotate_left
  · show Act.put _ (some 7) _ = _
    simp only [Act.put, List.setIfInBounds_toArray, List.set_cons_zero, List.set_cons_succ, i64_w, i32_w]
    rfl
  refine pure_ (i := 2) (N := some 8) (v := ?_) (a' := ?_) #[true, true, true, false, false, false, false, false, false, false, false, false, false, false, false, false, false] rfl rfl (by kernel_rfl) (fun _ _ _ h => h) (Or.inl ⟨by rfl, ?_⟩) ?_ ?_
  rotate_left
  · intro w'
    go_simp
    with_reducible rfl
  rotate_left
  · simp only [Act.put, List.setIfInBounds_toArray, List.set_cons_zero, List.set_cons_succ, i64_w, i32_w]
    rfl
  refine pure_ (i := 3) (N := some 9) (v := ?_) (a' := ?_) #[true, true, true, true, false, false, false, false, false, false, false, false, false, false, false, false, false] rfl rfl (by kernel_rfl) (fun _ _ _ h => h) (Or.inl ⟨by rfl, ?_⟩) ?_ ?_
  rotate_left
  · intro w'
    go_simp
    with_reducible rfl
  rotate_left
  · simp only [Act.put, List.setIfInBounds_toArray, List.set_cons_zero, List.set_cons_succ, i64_w, i32_w]
    rfl
  refine pure_ (i := 4) (N := some 10) (v := ?_) (a' := ?_) #[true, true, true, true, true, false, false, false, false, false, false, false, false, false, false, false, false] rfl rfl (by kernel_rfl) (fun _ _ _ h => h) (Or.inl ⟨by rfl, ?_⟩) ?_ ?_
  rotate_left
  · intro w'
    go_simp
    with_reducible rfl
  rotate_left
  · simp only [Act.put, List.setIfInBounds_toArray, List.set_cons_zero, List.set_cons_succ, i64_w, i32_w]
    rfl
  refine pure_ (i := 5) (N := some 11) (v := ?_) (a' := ?_) #[true, true, true, true, true, true, false, false, false, false, false, false, false, false, false, false, false] rfl rfl (by kernel_rfl) (fun _ _ _ h => h) (Or.inl ⟨by rfl, ?_⟩) ?_ ?_
  rotate_left
  · intro w'
    go_simp
    with_reducible rfl
  rotate_left
  · simp only [Act.put, List.setIfInBounds_toArray, List.set_cons_zero, List.set_cons_succ, i64_w, i32_w]
    rfl
  refine pure_ (i := 6) (N := some 12) (v := ?_) (a' := ?_) #[true, true, true, true, true, true, true, false, false, false, false, false, false, false, false, false, false] rfl rfl (by kernel_rfl) (fun _ _ _ h => h) (Or.inl ⟨by rfl, ?_⟩) ?_ ?_
  rotate_left
  · intro w'
    go_simp
    with_reducible rfl
  rotate_left
  · simp only [Act.put, List.setIfInBounds_toArray, List.set_cons_zero, List.set_cons_succ, i64_w, i32_w]
    rfl
  refine pure_ (i := 8) (N := some 14) (v := ?_) (a' := ?_) #[true, true, true, true, true, true, true, false, true, false, false, false, false, false, false, false, false] rfl rfl (by kernel_rfl) (fun _ _ _ h => h) (Or.inl ⟨by rfl, ?_⟩) ?_ ?_
  rotate_left
  · intro w'
    go_simp
    with_reducible rfl
  rotate_left
  · simp only [Act.put, List.setIfInBounds_toArray, List.set_cons_zero, List.set_cons_succ, i64_w, i32_w]
    rfl
  refine pure_ (i := 9) (N := some 15) (v := ?_) (a' := ?_) #[true, true, true, true, true, true, true, false, true, true, false, false, false, false, false, false, false] rfl rfl (by kernel_rfl) (fun _ _ _ h => h) (Or.inl ⟨by rfl, ?_⟩) ?_ ?_
  rotate_left
  · intro w'
    go_simp
    with_reducible rfl
  rotate_left
  · simp only [Act.put, List.setIfInBounds_toArray, List.set_cons_zero, List.set_cons_succ, i64_w, i32_w]
    rfl
  refine pure_ (i := 10) (N := some 16) (v := ?_) (a' := ?_) #[true, true, true, true, true, true, true, false, true, true, true, false, false, false, false, false, false] rfl rfl (by kernel_rfl) (fun _ _ _ h => h) (Or.inl ⟨by rfl, ?_⟩) ?_ ?_
  rotate_left
  · intro w'
    go_simp
    with_reducible rfl
  rotate_left
  · simp only [Act.put, List.setIfInBounds_toArray, List.set_cons_zero, List.set_cons_succ, i64_w, i32_w]
    rfl
  refine take_ (i := 7) (N := some 13) (v := ?_) (a' := ?_) #[true, true, true, true, true, true, true, true, true, true, true, false, false, false, false, false, false] rfl rfl (by kernel_rfl) (fun _ _ _ h => h) (Or.inl ⟨by rfl, ?_⟩) hHeld ?_ ?_
  rotate_left
  · rintro w' ⟨s0, s1, s2, s3, s4⟩
    go_simp
    with_reducible rfl
  rotate_left
  · simp only [Act.put, List.setIfInBounds_toArray, List.set_cons_zero, List.set_cons_succ, i64_w, i32_w]
    rfl
  refine take_ (i := 11) (N := some 17) (v := ?_) (a' := ?_) #[true, true, true, true, true, true, true, true, true, true, true, true, false, false, false, false, false] rfl rfl (by kernel_rfl) (fun _ _ _ h => h) (Or.inl ⟨by rfl, ?_⟩) hHeld ?_ ?_
  rotate_left
  · rintro w' ⟨s0, s1, s2, s3, s4⟩
    go_simp
    with_reducible rfl
  rotate_left
  · simp only [Act.put, List.setIfInBounds_toArray, List.set_cons_zero, List.set_cons_succ, i64_w, i32_w]
    rfl
  refine pure_ (i := 12) (N := some 18) (v := ?_) (a' := ?_) #[true, true, true, true, true, true, true, true, true, true, true, true, true, false, false, false, false] rfl rfl (by kernel_rfl) (fun _ _ _ h => h) (Or.inl ⟨by rfl, ?_⟩) ?_ ?_
  rotate_left
  · intro w'
    go_simp
    with_reducible rfl
  rotate_left
  · simp only [Act.put, List.setIfInBounds_toArray, List.set_cons_zero, List.set_cons_succ, i64_w, i32_w]
    rfl
  refine pure_ (i := 13) (N := some 19) (v := ?_) (a' := ?_) #[true, true, true, true, true, true, true, true, true, true, true, true, true, true, false, false, false] rfl rfl (by kernel_rfl) (fun _ _ _ h => h) (Or.inl ⟨by rfl, ?_⟩) ?_ ?_
  rotate_left
  · intro w'
    go_simp
    with_reducible rfl
  rotate_left
  · simp only [Act.put, List.setIfInBounds_toArray, List.set_cons_zero, List.set_cons_succ, i64_w, i32_w]
    rfl
  refine take_ (i := 14) (N := some 20) (v := ?_) (a' := ?_) #[true, true, true, true, true, true, true, true, true, true, true, true, true, true, true, false, false] rfl rfl (by kernel_rfl) (fun _ _ _ h => h) (Or.inl ⟨by rfl, ?_⟩) hHeld ?_ ?_
  rotate_left
  · rintro w' ⟨s0, s1, s2, s3, s4⟩
    go_simp
    with_reducible rfl
  rotate_left
  · simp only [Act.put, List.setIfInBounds_toArray, List.set_cons_zero, List.set_cons_succ, i64_w, i32_w]
    rfl
  refine pure_ (i := 15) (N := some 21) (v := ?_) (a' := ?_) #[true, true, true, true, true, true, true, true, true, true, true, true, true, true, true, true, false] rfl rfl (by kernel_rfl) (fun _ _ _ h => h) (Or.inl ⟨by rfl, ?_⟩) ?_ ?_
  rotate_left
  · intro w'
    go_simp
    with_reducible rfl
  rotate_left
  · simp only [Act.put, List.setIfInBounds_toArray, List.set_cons_zero, List.set_cons_succ, i64_w, i32_w]
    rfl
  refine pure_ (i := 16) (N := some 22) (v := ?_) (a' := ?_) #[true, true, true, true, true, true, true, true, true, true, true, true, true, true, true, true, true] rfl rfl (by kernel_rfl) (fun _ _ _ h => h) (Or.inl ⟨by rfl, ?_⟩) ?_ ?_
  rotate_left
  · intro w'
    go_simp
    with_reducible rfl
  rotate_left
  · simp only [Act.put, List.setIfInBounds_toArray, List.set_cons_zero, List.set_cons_succ, i64_w, i32_w]
    rfl
  refine done_ (by kernel_rfl) ?_
  have AR3 := Aside0.mk (AR1.out.drewN (1 + nd))
  go_wp2_with (first | (go_at_call 35; (with_reducible refine (register_walk w0 _ g (some ad) c l a HL.out HS.out HT.out HG.out AR3.out.rd none HQ.out).mono ?_); rintro e w2 ⟨rfl, hp, hf⟩; have AR4 := Aside0.mk (AR3.out.step hf hp); have v0 := (blk_cell AR4.out.box 0); have v1 := (blk_cell AR4.out.box 1); have v2 := (blk_cell AR4.out.box 2); have v3 := (blk_cell AR4.out.box 3); have v4 := (blk_cell AR4.out.box 4); have v5 := (blk_cell AR4.out.box 5); have v6 := (blk_cell AR4.out.box 6); have vf0 := blk_frozen AR4.out.box 0; have vf1 := blk_frozen AR4.out.box 1; have vf2 := blk_frozen AR4.out.box 2; have vf3 := blk_frozen AR4.out.box 3; have vf4 := blk_frozen AR4.out.box 4; have vf5 := blk_frozen AR4.out.box 5; have vf6 := blk_frozen AR4.out.box 6; simp only [aV, z32, z30, List.getElem?_toArray, List.getElem?_cons_zero, List.getElem?_cons_succ] at v0 v1 v2 v3 v4 v5 v6; clear hp hf) | (go_at_call 20; (with_reducible refine (is_walk w0 _ g (some ad) c l a a 0 40 hb0 (AR4.out.setx (y := (⟨2, 0, z30, (⟨#[]⟩ : ByteArray)⟩ : S32)) 0 (.int .u8 2) rfl).rd false HMK.out).mono ?_); rintro e w3 ⟨rfl, ⟨nd2, rfl⟩⟩; skip))
  obtain ⟨w5, hw5, AR7⟩ : ∃ V, ((w2.setCell ⟨p, 0, none⟩ (.int .u8 2)).drewN nd2) = V ∧ Aside0 (AR w0 W V g (some ad) c l a p (⟨2, 0, z30, (⟨#[]⟩ : ByteArray)⟩ : S32)) := ⟨_, rfl, ⟨(AR4.out.setx (y := (⟨2, 0, z30, (⟨#[]⟩ : ByteArray)⟩ : S32)) 0 (.int .u8 2) rfl).drewN nd2⟩⟩
  rw [hw5]
  clear hw5 AR1 AR2 AR3 AR4 c0 c1 x0 x1 x2 v0 v1 v2 v3 v4 v5 v6 vf0 vf1 vf2 vf3 vf4 vf5 vf6
  have g0 := AR7.out.rd.cell0
  have g1 := AR7.out.rd.cell1
  refine start_ (n := 20) (S := fun w' => w'.cell? ⟨g, 0, none⟩ = some (.slice (some ad) l.length c) ∧ w'.cell? ⟨g, 1, none⟩ = some (.int .i64 (a : Int))) (ds := [15, 18]) #[false, false, false, false, false, false, false, false, false, false, false, false, false, false, false, false, false, false, false, false] (by kernel_rfl) rfl rfl ⟨g0, g1⟩ (fun hHeld => ?_)
  refine pure_ (i := 0) (N := some 55) (v := ?_) (a' := ?_) #[true, false, false, false, false, false, false, false, false, false, false, false, false, false, false, false, false, false, false, false] rfl rfl (by kernel_rfl) (fun _ _ _ h => h) (Or.inl ⟨by rfl, ?_⟩) ?_ ?_
  rotate_left
  · intro w'
    go_simp
    with_reducible rfl
  rotate_left
  · simp only [Act.put, List.setIfInBounds_toArray, List.set_cons_zero, List.set_cons_succ, i64_w, i32_w]
    rfl
  refine pure_ (i := 1) (N := some 56) (v := ?_) (a' := ?_) #[true, true, false, false, false, false, false, false, false, false, false, false, false, false, false, false, false, false, false, false] rfl rfl (by kernel_rfl) (fun _ _ _ h => h) (Or.inl ⟨by rfl, ?_⟩) ?_ ?_
  rotate_left
  · intro w'
    go_simp
    with_reducible rfl
  rotate_left
  · simp only [Act.put, List.setIfInBounds_toArray, List.set_cons_zero, List.set_cons_succ, i64_w, i32_w]
    rfl
  refine pure_ (i := 2) (N := some 57) (v := ?_) (a' := ?_) #[true, true, true, false, false, false, false, false, false, false, false, false, false, false, false, false, false, false, false, false] rfl rfl (by kernel_rfl) (fun _ _ _ h => h) (Or.inl ⟨by rfl, ?_⟩) ?_ ?_
  rotate_left
  · intro w'
    go_simp
    with_reducible rfl
  rotate_left
  · simp only [Act.put, List.setIfInBounds_toArray, List.set_cons_zero, List.set_cons_succ, i64_w, i32_w]
    rfl
  refine pure_ (i := 3) (N := some 58) (v := ?_) (a' := ?_) #[true, true, true, true, false, false, false, false, false, false, false, false, false, false, false, false, false, false, false, false] rfl rfl (by kernel_rfl) (fun _ _ _ h => h) (Or.inl ⟨by rfl, ?_⟩) ?_ ?_
  rotate_left
  · intro w'
    go_simp
    with_reducible rfl
  rotate_left
  · simp only [Act.put, List.setIfInBounds_toArray, List.set_cons_zero, List.set_cons_succ, i64_w, i32_w]
    rfl
  refine pure_ (i := 5) (N := some 60) (v := ?_) (a' := ?_) #[true, true, true, true, false, true, false, false, false, false, false, false, false, false, false, false, false, false, false, false] rfl rfl (by kernel_rfl) (fun _ _ _ h => h) (Or.inl ⟨by rfl, ?_⟩) ?_ ?_
  rotate_left
  · intro w'
    go_simp
    with_reducible rfl
  rotate_left
  · simp only [Act.put, List.setIfInBounds_toArray, List.set_cons_zero, List.set_cons_succ, i64_w, i32_w]
    rfl
  refine pure_ (i := 6) (N := some 61) (v := ?_) (a' := ?_) #[true, true, true, true, false, true, true, false, false, false, false, false, false, false, false, false, false, false, false, false] rfl rfl (by kernel_rfl) (fun _ _ _ h => h) (Or.inl ⟨by rfl, ?_⟩) ?_ ?_
  rotate_left
  · intro w'
    go_simp
    with_reducible rfl
  rotate_left
  · simp only [Act.put, List.setIfInBounds_toArray, List.set_cons_zero, List.set_cons_succ, i64_w, i32_w]
    rfl
  refine pure_ (i := 7) (N := some 62) (v := ?_) (a' := ?_) #[true, true, true, true, false, true, true, true, false, false, false, false, false, false, false, false, false, false, false, false] rfl rfl (by kernel_rfl) (fun _ _ _ h => h) (Or.inl ⟨by rfl, ?_⟩) ?_ ?_
  rotate_left
  · intro w'
    go_simp
    with_reducible rfl
  rotate_left
  · simp only [Act.put, List.setIfInBounds_toArray, List.set_cons_zero, List.set_cons_succ, i64_w, i32_w]
    rfl
  refine take_ (i := 4) (N := some 59) (v := ?_) (a' := ?_) #[true, true, true, true, true, true, true, true, false, false, false, false, false, false, false, false, false, false, false, false] rfl rfl (by kernel_rfl) (fun _ _ _ h => h) (Or.inl ⟨by rfl, ?_⟩) hHeld ?_ ?_
  rotate_left
  · rintro w' ⟨s0, s1⟩
    go_simp
    with_reducible rfl
  rotate_left
  · simp only [Act.put, List.setIfInBounds_toArray, List.set_cons_zero, List.set_cons_succ, i64_w, i32_w]
    rfl
  refine take_ (i := 8) (N := some 63) (v := ?_) (a' := ?_) #[true, true, true, true, true, true, true, true, true, false, false, false, false, false, false, false, false, false, false, false] rfl rfl (by kernel_rfl) (fun _ _ _ h => h) (Or.inl ⟨by rfl, ?_⟩) hHeld ?_ ?_
  rotate_left
  · rintro w' ⟨s0, s1⟩
    go_simp
    with_reducible rfl
  rotate_left
  · simp only [Act.put, List.setIfInBounds_toArray, List.set_cons_zero, List.set_cons_succ, i64_w, i32_w]
    rfl
  refine one_ (i := 9) (N := some 64) #[true, true, true, true, true, true, true, true, true, true, false, false, false, false, false, false, false, false, false, false] rfl rfl (by kernel_rfl) (by decide) (fun K hK => ?_)
  have hT9 := Lib.tabBelow_of_tabIs HT.out _ AR7.out.drew.rd.bel
  refine goes_ Tryd.func36 (by kernel_rfl) rfl #[.slice (some ad) l.length c, .int .i64 (a : Int)] (by rfl) rfl rfl (by simp only [List.map_toArray, List.map_cons, List.map_nil]; rfl) ?_
  with_reducible refine (expr_Parse.calls (some ad) c l (a : Int) s1 s2 n m (nx : Int) er _ (Kd.C_below AR7.out.rd.row AR7.out.drew.rd.bel) AR7.out.rd.cap hT9 (HD.out.below AR7.out.drew.rd.bel) (HM.out.below AR7.out.drew.rd.bel) HP.out).mono ?_
  rintro e w6 ⟨rfl, hb⟩
  refine ⟨_, rfl, ?_⟩
  have AR8 := Aside0.mk (AR7.out.drew.below hb)
  refine hK.out _ _ ⟨((hb.cell (World.block_lt_of_cell? _ _ hHeld.1)).trans hHeld.1), ((hb.cell (World.block_lt_of_cell? _ _ hHeld.2)).trans hHeld.2)⟩ (fun hHeld => ?_)
  clear hK K
  refine norm_ (a' := ?_) ?_ ?_
  rotate_left
  · show Act.put _ (some 64) _ = _
    simp only [Act.put, List.setIfInBounds_toArray, List.set_cons_zero, List.set_cons_succ, i64_w, i32_w]
    rfl
  refine pure_ (i := 10) (N := some 54) (v := ?_) (a' := ?_) #[true, true, true, true, true, true, true, true, true, true, true, false, false, false, false, false, false, false, false, false] rfl rfl (by kernel_rfl) (fun _ _ _ h => h) (Or.inl ⟨by rfl, ?_⟩) ?_ ?_
  rotate_left
  · intro w'
    go_simp
    with_reducible rfl
  rotate_left
  · simp only [Act.put, List.setIfInBounds_toArray, List.set_cons_zero, List.set_cons_succ, i64_w, i32_w]
    rfl
  refine pure_ (i := 11) (N := some 65) (v := ?_) (a' := ?_) #[true, true, true, true, true, true, true, true, true, true, true, true, false, false, false, false, false, false, false, false] rfl rfl (by kernel_rfl) (fun _ _ _ h => h) (Or.inl ⟨by rfl, ?_⟩) ?_ ?_
  rotate_left
  · intro w'
    go_simp
    with_reducible rfl
  rotate_left
  · simp only [Act.put, List.setIfInBounds_toArray, List.set_cons_zero, List.set_cons_succ, i64_w, i32_w]
    rfl
  refine pure_ (i := 12) (N := some 66) (v := ?_) (a' := ?_) #[true, true, true, true, true, true, true, true, true, true, true, true, true, false, false, false, false, false, false, false] rfl rfl (by kernel_rfl) (fun _ _ _ h => h) (Or.inl ⟨by rfl, ?_⟩) ?_ ?_
  rotate_left
  · intro w'
    go_simp
    with_reducible rfl
  rotate_left
  · simp only [Act.put, List.setIfInBounds_toArray, List.set_cons_zero, List.set_cons_succ, i64_w, i32_w]
    rfl
  refine pure_ (i := 13) (N := some 67) (v := ?_) (a' := ?_) #[true, true, true, true, true, true, true, true, true, true, true, true, true, true, false, false, false, false, false, false] rfl rfl (by kernel_rfl) (fun _ _ _ h => h) (Or.inl ⟨by rfl, ?_⟩) ?_ ?_
  rotate_left
  · intro w'
    go_simp
    with_reducible rfl
  rotate_left
  · simp only [Act.put, List.setIfInBounds_toArray, List.set_cons_zero, List.set_cons_succ, i64_w, i32_w]
    rfl
  refine pure_ (i := 14) (N := some 68) (v := ?_) (a' := ?_) #[true, true, true, true, true, true, true, true, true, true, true, true, true, true, true, false, false, false, false, false] rfl rfl (by kernel_rfl) (fun _ _ _ h => h) (Or.inl ⟨by rfl, ?_⟩) ?_ ?_
  rotate_left
  · intro w'
    go_simp
    with_reducible rfl
  rotate_left
  · simp only [Act.put, List.setIfInBounds_toArray, List.set_cons_zero, List.set_cons_succ, i64_w, i32_w]
    rfl
  refine last_ (i := 15) (N := none) #[true, true, true, true, true, true, true, true, true, true, true, true, true, true, true, true, false, false, false, false] rfl rfl (by kernel_rfl) (by decide) (fun K hK => ?_)
  have v0 := (blk_cell AR8.out.box 0)
  have v1 := (blk_cell AR8.out.box 1)
  have v2 := (blk_cell AR8.out.box 2)
  have v3 := (blk_cell AR8.out.box 3)
  have v4 := (blk_cell AR8.out.box 4)
  have v5 := (blk_cell AR8.out.box 5)
  have v6 := (blk_cell AR8.out.box 6)
  have vf0 := blk_frozen AR8.out.box 0
  have vf1 := blk_frozen AR8.out.box 1
  have vf2 := blk_frozen AR8.out.box 2
  have vf3 := blk_frozen AR8.out.box 3
  have vf4 := blk_frozen AR8.out.box 4
  have vf5 := blk_frozen AR8.out.box 5
  have vf6 := blk_frozen AR8.out.box 6
  simp only [aV, z32, z30, List.getElem?_toArray, List.getElem?_cons_zero, List.getElem?_cons_succ] at v0 v1 v2 v3 v4 v5 v6
  refine skip_ (w1 := ?_) (by rfl) rfl ?_ ?_
  rotate_left
  · go_simp
    rfl
  refine hK.out _ _ ?_
  clear hK K
  refine pure_ (i := 16) (N := some 69) (v := ?_) (a' := ?_) #[true, true, true, true, true, true, true, true, true, true, true, true, true, true, true, true, true, false, false, false] rfl rfl (by kernel_rfl) (fun _ _ _ h => h) (Or.inl ⟨by rfl, ?_⟩) ?_ ?_
  rotate_left
  · intro w'
    go_simp
    with_reducible rfl
  rotate_left
  · simp only [Act.put, List.setIfInBounds_toArray, List.set_cons_zero, List.set_cons_succ, i64_w, i32_w]
    rfl
  refine pure_ (i := 17) (N := some 70) (v := ?_) (a' := ?_) #[true, true, true, true, true, true, true, true, true, true, true, true, true, true, true, true, true, true, false, false] rfl rfl (by kernel_rfl) (fun _ _ _ h => h) (Or.inl ⟨by rfl, ?_⟩) ?_ ?_
  rotate_left
  · intro w'
    go_simp
    with_reducible rfl
  rotate_left
  · simp only [Act.put, List.setIfInBounds_toArray, List.set_cons_zero, List.set_cons_succ, i64_w, i32_w]
    rfl
  refine last_ (i := 18) (N := none) #[true, true, true, true, true, true, true, true, true, true, true, true, true, true, true, true, true, true, true, false] rfl rfl (by kernel_rfl) (by decide) (fun K hK => ?_)
  have y1 := AR8.out.rd.cell1
  have yf := blk_frozen AR8.out.rd.blk 1
  have ng : g ≠ p := AR8.out.ne
  have ng2 : p ≠ g := ng.symm
  refine skip_ (w1 := ?_) (by rfl) rfl ?_ ?_
  rotate_left
  · go_simp
    rfl
  refine hK.out _ _ ?_
  clear hK K
  refine pure_ (i := 19) (N := some 3) (v := ?_) (a' := ?_) #[true, true, true, true, true, true, true, true, true, true, true, true, true, true, true, true, true, true, true, true] rfl rfl (by kernel_rfl) (fun _ _ _ h => h) (Or.inl ⟨by rfl, ?_⟩) ?_ ?_
  rotate_left
  · intro w'
    go_simp
    with_reducible rfl
  rotate_left
  · simp only [Act.put, List.setIfInBounds_toArray, List.set_cons_zero, List.set_cons_succ, i64_w, i32_w]
    rfl
  refine done_ (by kernel_rfl) ?_
  obtain ⟨w9, hw9, AR9⟩ : ∃ V, (((((w6.setCell ⟨p, 2, none⟩ (.string s1)).setCell ⟨p, 3, none⟩ (.string s2)).setCell ⟨p, 4, none⟩ (.int .i64 n)).setCell ⟨p, 5, none⟩ (.int .u8 m)).setCell ⟨g, 1, none⟩ (.int .i64 (nx : Int))) = V ∧ Aside0 (AR w0 W V g (some ad) c l nx p (⟨2, 0, ⟨s1, s2, n, m⟩, (⟨#[]⟩ : ByteArray)⟩ : S32)) := ⟨_, rfl, ⟨((((AR8.out.setx (y := ⟨2, 0, ⟨s1, (⟨#[]⟩ : ByteArray), 0, 0⟩, (⟨#[]⟩ : ByteArray)⟩) 2 (.string s1) rfl).setx (y := ⟨2, 0, ⟨s1, s2, 0, 0⟩, (⟨#[]⟩ : ByteArray)⟩) 3 (.string s2) rfl).setx (y := ⟨2, 0, ⟨s1, s2, n, 0⟩, (⟨#[]⟩ : ByteArray)⟩) 4 (.int .i64 n) rfl).setx (y := (⟨2, 0, ⟨s1, s2, n, m⟩, (⟨#[]⟩ : ByteArray)⟩ : S32)) 5 (.int .u8 m) rfl).seti nx⟩⟩
  rw [hw9]
  clear hw9 AR7 AR8 g0 g1
  have q2 := (blk_cell AR9.out.box 2)
  have q3 := (blk_cell AR9.out.box 3)
  have q4 := (blk_cell AR9.out.box 4)
  have q5 := (blk_cell AR9.out.box 5)
  simp only [aV, List.getElem?_toArray, List.getElem?_cons_zero, List.getElem?_cons_succ] at q2 q3 q4 q5
  go_wp2_with (first | (go_at_call 37; have hTs := Lib.tabBelow_of_tabIs HT.out _ AR9.out.rd.bel; (with_reducible refine (line_sum.calls s1 s2 n m true _ hTs (HG.out.below AR9.out.rd.bel) HSUM.out).mono ?_); rintro e w10 ⟨rfl, hb⟩; have AR10 := Aside0.mk (AR9.out.below hb); have v0 := (blk_cell AR10.out.box 0); have v1 := (blk_cell AR10.out.box 1); have v2 := (blk_cell AR10.out.box 2); have v3 := (blk_cell AR10.out.box 3); have v4 := (blk_cell AR10.out.box 4); have v5 := (blk_cell AR10.out.box 5); have v6 := (blk_cell AR10.out.box 6); have vf0 := blk_frozen AR10.out.box 0; have vf1 := blk_frozen AR10.out.box 1; have vf2 := blk_frozen AR10.out.box 2; have vf3 := blk_frozen AR10.out.box 3; have vf4 := blk_frozen AR10.out.box 4; have vf5 := blk_frozen AR10.out.box 5; have vf6 := blk_frozen AR10.out.box 6; simp only [aV, List.getElem?_toArray, List.getElem?_cons_zero, List.getElem?_cons_succ] at v0 v1 v2 v3 v4 v5 v6; clear hb hTs) | (go_at_call 20; (with_reducible refine (is_walk w0 _ g (some ad) c l nx nx 0 40 hbn AR10.out.rd true HMN.out).mono ?_); rintro e w11 ⟨rfl, ⟨nd3, rfl⟩⟩; skip) | (go_at_call 38; (with_reducible refine (by_walk w0 _ g (some ad) c l nx HL.out (by have := HNX.out; have := HL.out; omega) HS.out HT.out HG.out ((AR10.out.drewN nd3).setx (y := (⟨3, 0, ⟨s1, s2, n, m⟩, (⟨#[]⟩ : ByteArray)⟩ : S32)) 0 (.int .u8 3) rfl).rd _ HO.out).mono ?_); rintro e w4 ⟨rfl, hf, a', hp, hq⟩; have AR14 := Aside0.mk (((AR10.out.drewN nd3).setx (y := (⟨3, 0, ⟨s1, s2, n, m⟩, (⟨#[]⟩ : ByteArray)⟩ : S32)) 0 (.int .u8 3) rfl).step hf hp); have HQ8 := Aside0.mk hq; have v0 := (blk_cell AR14.out.box 0); have v1 := (blk_cell AR14.out.box 1); have v2 := (blk_cell AR14.out.box 2); have v3 := (blk_cell AR14.out.box 3); have v4 := (blk_cell AR14.out.box 4); have v5 := (blk_cell AR14.out.box 5); have v6 := (blk_cell AR14.out.box 6); have vf0 := blk_frozen AR14.out.box 0; have vf1 := blk_frozen AR14.out.box 1; have vf2 := blk_frozen AR14.out.box 2; have vf3 := blk_frozen AR14.out.box 3; have vf4 := blk_frozen AR14.out.box 4; have vf5 := blk_frozen AR14.out.box 5; have vf6 := blk_frozen AR14.out.box 6; simp only [aV, List.getElem?_toArray, List.getElem?_cons_zero, List.getElem?_cons_succ] at v0 v1 v2 v3 v4 v5 v6; clear hp hf hq))
  have AR15 := Aside0.mk (AR14.out.setx (y := (⟨3, (k : Int), ⟨s1, s2, n, m⟩, (⟨#[]⟩ : ByteArray)⟩ : S32)) 1 (.int .i64 (k : Int)) rfl)
  refine bodyPost_ret (results_ct rfl _ _ p 32 (aV (⟨3, (k : Int), ⟨s1, s2, n, m⟩, (⟨#[]⟩ : ByteArray)⟩ : S32)) (0, 0) _ rfl (AR15.out.box) Tryd.underlying32 rfl (by kernel_rfl)) rfl ?_
  exact ⟨rfl, AR15.out.fr, (HQ8.out rfl) ▸ AR15.out.rd⟩

set_option maxHeartbeats 8000000 in
set_option maxRecDepth 100000 in
theorem arg_out (w0 W : World) (g : Nat) (A : Option Addr) (c : Nat) (l : List S53) (a : Nat) (hl : l.length ≤ 1000000) (ha : a ≤ l.length) (hs : ∀ x ∈ l, x.f1.size ≤ 1000000) (hT : Lib.TabIs Tryd.prog w0 "internal/strconv.uint64pow10" .u64 Lib.pow10Tab) (hD : LexW.LexD w0) (hM : ExW.ModsAt w0) (hG : LiW.RegsAt w0) (h : RD w0 W g A c l a) (hlt : ¬ a < l.length) (hq : regAt l a = none) (hm : markB l a 40 = false) (s1 s2 : ByteArray) (n m er : Int) (nx : Nat) (hp : expr_Parse.f l (a : Int) = some (s1, s2, n, m, (nx : Int), er)) (he : er ≠ 0) :
    Calls Tryd.prog 22 #[.pointer (some ⟨g, 0, none⟩)] W fun e W' => e = .returned (.tuple #[.agg (aV (⟨2, 0, ⟨s1, s2, n, m⟩, (⟨#[]⟩ : ByteArray)⟩ : S32)), .int .i64 er]) ∧ FR W W' g ∧ ∃ a', RD w0 W' g A c l a' := by
  have HR := Aside0.mk h
  have HT := Aside0.mk hT
  have HD := Aside0.mk hD
  have HM := Aside0.mk hM
  have HG := Aside0.mk hG
  have HL := Aside0.mk hl
  have HS := Aside0.mk hs
  have HE := Aside0.mk (show decide (l.length ≤ a) = true from decide_eq_true (by omega))
  have HQ := Aside0.mk hq
  have HMK := Aside0.mk hm
  have HP := Aside0.mk hp
  have hb0 : wrap64 ((a : Int) + 0) = (a : Int) := by unfold wrap64; omega
  have r0 : (er == 0) = false := beq_eq_false_iff_ne.2 he
  have r1 : (er != 0) = true := bne_iff_ne.2 he
  clear h hl ha hs hT hD hM hG hlt hq hm hp he
  go_enter Tryd.func22, Tryd.ntmps22
  go_wp2_with (first | ((with_reducible refine gate_dst (N := 2) rfl ?_); refine box_event ?hg (N := 2) ?hd (cs := #[.int .u8 0, .int .i64 0, .string (⟨#[]⟩ : ByteArray), .string (⟨#[]⟩ : ByteArray), .int .i64 0, .int .u8 0, .string (⟨#[]⟩ : ByteArray)]) (t := 32) ?hr ?_; (case hd => rfl); (case hg => rfl); (case hr => first | (go_simp; done) | (go_simp; rfl)); intro p hg w1 hbox hb; have AR1 : Aside0 (AR w0 W w1 g A c l a p z32) := ⟨⟨FR.of_below hb, by rw [hg]; exact Nat.le_refl _, HR.out.below hb, hbox, by rw [hg]; exact HR.out.bel.size, by rw [hg]; exact Nat.ne_of_lt (blk_lt HR.out.blk)⟩⟩; clear hb hbox hg))
  have c0 := AR1.out.rd.cell0
  have c1 := AR1.out.rd.cell1
  refine start_ (n := 17) (S := fun w' => w'.cell? ⟨g, 0, none⟩ = some (.slice A l.length c) ∧ w'.cell? ⟨g, 1, none⟩ = some (.int .i64 (a : Int))) (ds := []) #[false, false, false, false, false, false, false, false, false, false, false, false, false, false, false, false, false] (by kernel_rfl) rfl rfl ⟨c0, c1⟩ (fun hHeld => ?_)
  refine pure_ (i := 0) (N := some 6) (v := ?_) (a' := ?_) #[true, false, false, false, false, false, false, false, false, false, false, false, false, false, false, false, false] rfl rfl (by kernel_rfl) (fun _ _ _ h => h) (Or.inl ⟨by rfl, ?_⟩) ?_ ?_
  rotate_left
  · intro w'
    go_simp
    with_reducible rfl
  rotate_left
  · simp only [Act.put, List.setIfInBounds_toArray, List.set_cons_zero, List.set_cons_succ, i64_w, i32_w]
    rfl
  refine one_ (i := 1) (N := some 7) #[true, true, false, false, false, false, false, false, false, false, false, false, false, false, false, false, false] rfl rfl (by kernel_rfl) (by decide) (fun K hK => ?_)
  refine goes_ Tryd.func15 (by kernel_rfl) rfl #[.pointer (some ⟨g, 0, none⟩)] (by rfl) rfl rfl (by simp only [List.map_toArray, List.map_cons, List.map_nil]; rfl) ?_
  with_reducible refine (end_walk w0 _ g A c l a AR1.out.rd.drew true HE.out).mono ?_
  rintro e w5 ⟨rfl, ⟨nd, rfl⟩⟩
  refine ⟨_, rfl, ?_⟩
  have AR2 := Aside0.mk (AR1.out.drew.drewN nd)
  refine hK.out _ _ ⟨hHeld.1, hHeld.2⟩ (fun hHeld => ?_)
  clear hK K
  refine norm_ (a' := ?_) ?_ ?_
  rotate_left
  · show Act.put _ (some 7) _ = _
    simp only [Act.put, List.setIfInBounds_toArray, List.set_cons_zero, List.set_cons_succ, i64_w, i32_w]
    rfl
  refine pure_ (i := 2) (N := some 8) (v := ?_) (a' := ?_) #[true, true, true, false, false, false, false, false, false, false, false, false, false, false, false, false, false] rfl rfl (by kernel_rfl) (fun _ _ _ h => h) (Or.inl ⟨by rfl, ?_⟩) ?_ ?_
  rotate_left
  · intro w'
    go_simp
    with_reducible rfl
  rotate_left
  · simp only [Act.put, List.setIfInBounds_toArray, List.set_cons_zero, List.set_cons_succ, i64_w, i32_w]
    rfl
  refine pure_ (i := 3) (N := some 9) (v := ?_) (a' := ?_) #[true, true, true, true, false, false, false, false, false, false, false, false, false, false, false, false, false] rfl rfl (by kernel_rfl) (fun _ _ _ h => h) (Or.inl ⟨by rfl, ?_⟩) ?_ ?_
  rotate_left
  · intro w'
    go_simp
    with_reducible rfl
  rotate_left
  · simp only [Act.put, List.setIfInBounds_toArray, List.set_cons_zero, List.set_cons_succ, i64_w, i32_w]
    rfl
  refine pure_ (i := 4) (N := some 10) (v := undef) (a' := ?_) #[true, true, true, true, true, false, false, false, false, false, false, false, false, false, false, false, false] rfl rfl (by kernel_rfl) (fun _ _ _ h => h) (Or.inr ⟨by rfl, rfl⟩) ?_ ?_
  rotate_left
  · simp only [Act.put, List.setIfInBounds_toArray, List.set_cons_zero, List.set_cons_succ, i64_w, i32_w]
    rfl
  refine pure_ (i := 5) (N := some 11) (v := undef) (a' := ?_) #[true, true, true, true, true, true, false, false, false, false, false, false, false, false, false, false, false] rfl rfl (by kernel_rfl) (fun _ _ _ h => h) (Or.inr ⟨by rfl, rfl⟩) ?_ ?_
  rotate_left
  · simp only [Act.put, List.setIfInBounds_toArray, List.set_cons_zero, List.set_cons_succ, i64_w, i32_w]
    rfl
  refine pure_ (i := 6) (N := some 12) (v := undef) (a' := ?_) #[true, true, true, true, true, true, true, false, false, false, false, false, false, false, false, false, false] rfl rfl (by kernel_rfl) (fun _ _ _ h => h) (Or.inr ⟨by rfl, rfl⟩) ?_ ?_
  rotate_left
  · simp only [Act.put, List.setIfInBounds_toArray, List.set_cons_zero, List.set_cons_succ, i64_w, i32_w]
    rfl
  refine pure_ (i := 7) (N := some 13) (v := undef) (a' := ?_) #[true, true, true, true, true, true, true, true, false, false, false, false, false, false, false, false, false] rfl rfl (by kernel_rfl) (fun _ _ _ h => h) (Or.inr ⟨by rfl, rfl⟩) ?_ ?_
  rotate_left
  · simp only [Act.put, List.setIfInBounds_toArray, List.set_cons_zero, List.set_cons_succ, i64_w, i32_w]
    rfl
  refine pure_ (i := 8) (N := some 14) (v := undef) (a' := ?_) #[true, true, true, true, true, true, true, true, true, false, false, false, false, false, false, false, false] rfl rfl (by kernel_rfl) (fun _ _ _ h => h) (Or.inr ⟨by rfl, rfl⟩) ?_ ?_
  rotate_left
  · simp only [Act.put, List.setIfInBounds_toArray, List.set_cons_zero, List.set_cons_succ, i64_w, i32_w]
    rfl
  refine pure_ (i := 9) (N := some 15) (v := undef) (a' := ?_) #[true, true, true, true, true, true, true, true, true, true, false, false, false, false, false, false, false] rfl rfl (by kernel_rfl) (fun _ _ _ h => h) (Or.inr ⟨by rfl, rfl⟩) ?_ ?_
  rotate_left
  · simp only [Act.put, List.setIfInBounds_toArray, List.set_cons_zero, List.set_cons_succ, i64_w, i32_w]
    rfl
  refine pure_ (i := 10) (N := some 16) (v := undef) (a' := ?_) #[true, true, true, true, true, true, true, true, true, true, true, false, false, false, false, false, false] rfl rfl (by kernel_rfl) (fun _ _ _ h => h) (Or.inr ⟨by rfl, rfl⟩) ?_ ?_
  rotate_left
  · simp only [Act.put, List.setIfInBounds_toArray, List.set_cons_zero, List.set_cons_succ, i64_w, i32_w]
    rfl
  refine pure_ (i := 11) (N := some 17) (v := undef) (a' := ?_) #[true, true, true, true, true, true, true, true, true, true, true, true, false, false, false, false, false] rfl rfl (by kernel_rfl) (fun _ _ _ h => h) (Or.inr ⟨by rfl, rfl⟩) ?_ ?_
  rotate_left
  · simp only [Act.put, List.setIfInBounds_toArray, List.set_cons_zero, List.set_cons_succ, i64_w, i32_w]
    rfl
  refine pure_ (i := 12) (N := some 18) (v := undef) (a' := ?_) #[true, true, true, true, true, true, true, true, true, true, true, true, true, false, false, false, false] rfl rfl (by kernel_rfl) (fun _ _ _ h => h) (Or.inr ⟨by rfl, rfl⟩) ?_ ?_
  rotate_left
  · simp only [Act.put, List.setIfInBounds_toArray, List.set_cons_zero, List.set_cons_succ, i64_w, i32_w]
    rfl
  refine pure_ (i := 13) (N := some 19) (v := undef) (a' := ?_) #[true, true, true, true, true, true, true, true, true, true, true, true, true, true, false, false, false] rfl rfl (by kernel_rfl) (fun _ _ _ h => h) (Or.inr ⟨by rfl, rfl⟩) ?_ ?_
  rotate_left
  · simp only [Act.put, List.setIfInBounds_toArray, List.set_cons_zero, List.set_cons_succ, i64_w, i32_w]
    rfl
  refine pure_ (i := 14) (N := some 20) (v := undef) (a' := ?_) #[true, true, true, true, true, true, true, true, true, true, true, true, true, true, true, false, false] rfl rfl (by kernel_rfl) (fun _ _ _ h => h) (Or.inr ⟨by rfl, rfl⟩) ?_ ?_
  rotate_left
  · simp only [Act.put, List.setIfInBounds_toArray, List.set_cons_zero, List.set_cons_succ, i64_w, i32_w]
    rfl
  refine pure_ (i := 15) (N := some 21) (v := undef) (a' := ?_) #[true, true, true, true, true, true, true, true, true, true, true, true, true, true, true, true, false] rfl rfl (by kernel_rfl) (fun _ _ _ h => h) (Or.inr ⟨by rfl, rfl⟩) ?_ ?_
  rotate_left
  · simp only [Act.put, List.setIfInBounds_toArray, List.set_cons_zero, List.set_cons_succ, i64_w, i32_w]
    rfl
  refine pure_ (i := 16) (N := some 22) (v := ?_) (a' := ?_) #[true, true, true, true, true, true, true, true, true, true, true, true, true, true, true, true, true] rfl rfl (by kernel_rfl) (fun _ _ _ h => h) (Or.inl ⟨by rfl, ?_⟩) ?_ ?_
  rotate_left
  · intro w'
    go_simp
    with_reducible rfl
  rotate_left
  · simp only [Act.put, List.setIfInBounds_toArray, List.set_cons_zero, List.set_cons_succ, i64_w, i32_w]
    rfl
  refine done_ (by kernel_rfl) ?_
  have AR3 := Aside0.mk (AR1.out.drewN (1 + nd))
  go_wp2_with (first | (go_at_call 35; (with_reducible refine (register_walk w0 _ g A c l a HL.out HS.out HT.out HG.out AR3.out.rd none HQ.out).mono ?_); rintro e w2 ⟨rfl, hp, hf⟩; have AR4 := Aside0.mk (AR3.out.step hf hp); have v0 := (blk_cell AR4.out.box 0); have v1 := (blk_cell AR4.out.box 1); have v2 := (blk_cell AR4.out.box 2); have v3 := (blk_cell AR4.out.box 3); have v4 := (blk_cell AR4.out.box 4); have v5 := (blk_cell AR4.out.box 5); have v6 := (blk_cell AR4.out.box 6); have vf0 := blk_frozen AR4.out.box 0; have vf1 := blk_frozen AR4.out.box 1; have vf2 := blk_frozen AR4.out.box 2; have vf3 := blk_frozen AR4.out.box 3; have vf4 := blk_frozen AR4.out.box 4; have vf5 := blk_frozen AR4.out.box 5; have vf6 := blk_frozen AR4.out.box 6; simp only [aV, z32, z30, List.getElem?_toArray, List.getElem?_cons_zero, List.getElem?_cons_succ] at v0 v1 v2 v3 v4 v5 v6; clear hp hf) | (go_at_call 20; (with_reducible refine (is_walk w0 _ g A c l a a 0 40 hb0 (AR4.out.setx (y := (⟨2, 0, z30, (⟨#[]⟩ : ByteArray)⟩ : S32)) 0 (.int .u8 2) rfl).rd false HMK.out).mono ?_); rintro e w3 ⟨rfl, ⟨nd2, rfl⟩⟩; skip))
  obtain ⟨w5, hw5, AR7⟩ : ∃ V, ((w2.setCell ⟨p, 0, none⟩ (.int .u8 2)).drewN nd2) = V ∧ Aside0 (AR w0 W V g A c l a p (⟨2, 0, z30, (⟨#[]⟩ : ByteArray)⟩ : S32)) := ⟨_, rfl, ⟨(AR4.out.setx (y := (⟨2, 0, z30, (⟨#[]⟩ : ByteArray)⟩ : S32)) 0 (.int .u8 2) rfl).drewN nd2⟩⟩
  rw [hw5]
  clear hw5 AR1 AR2 AR3 AR4 c0 c1 v0 v1 v2 v3 v4 v5 v6 vf0 vf1 vf2 vf3 vf4 vf5 vf6
  have g0 := AR7.out.rd.cell0
  have g1 := AR7.out.rd.cell1
  refine start_ (n := 20) (S := fun w' => w'.cell? ⟨g, 0, none⟩ = some (.slice A l.length c) ∧ w'.cell? ⟨g, 1, none⟩ = some (.int .i64 (a : Int))) (ds := [15, 18]) #[false, false, false, false, false, false, false, false, false, false, false, false, false, false, false, false, false, false, false, false] (by kernel_rfl) rfl rfl ⟨g0, g1⟩ (fun hHeld => ?_)
  refine pure_ (i := 0) (N := some 55) (v := ?_) (a' := ?_) #[true, false, false, false, false, false, false, false, false, false, false, false, false, false, false, false, false, false, false, false] rfl rfl (by kernel_rfl) (fun _ _ _ h => h) (Or.inl ⟨by rfl, ?_⟩) ?_ ?_
  rotate_left
  · intro w'
    go_simp
    with_reducible rfl
  rotate_left
  · simp only [Act.put, List.setIfInBounds_toArray, List.set_cons_zero, List.set_cons_succ, i64_w, i32_w]
    rfl
  refine pure_ (i := 1) (N := some 56) (v := ?_) (a' := ?_) #[true, true, false, false, false, false, false, false, false, false, false, false, false, false, false, false, false, false, false, false] rfl rfl (by kernel_rfl) (fun _ _ _ h => h) (Or.inl ⟨by rfl, ?_⟩) ?_ ?_
  rotate_left
  · intro w'
    go_simp
    with_reducible rfl
  rotate_left
  · simp only [Act.put, List.setIfInBounds_toArray, List.set_cons_zero, List.set_cons_succ, i64_w, i32_w]
    rfl
  refine pure_ (i := 2) (N := some 57) (v := ?_) (a' := ?_) #[true, true, true, false, false, false, false, false, false, false, false, false, false, false, false, false, false, false, false, false] rfl rfl (by kernel_rfl) (fun _ _ _ h => h) (Or.inl ⟨by rfl, ?_⟩) ?_ ?_
  rotate_left
  · intro w'
    go_simp
    with_reducible rfl
  rotate_left
  · simp only [Act.put, List.setIfInBounds_toArray, List.set_cons_zero, List.set_cons_succ, i64_w, i32_w]
    rfl
  refine pure_ (i := 3) (N := some 58) (v := ?_) (a' := ?_) #[true, true, true, true, false, false, false, false, false, false, false, false, false, false, false, false, false, false, false, false] rfl rfl (by kernel_rfl) (fun _ _ _ h => h) (Or.inl ⟨by rfl, ?_⟩) ?_ ?_
  rotate_left
  · intro w'
    go_simp
    with_reducible rfl
  rotate_left
  · simp only [Act.put, List.setIfInBounds_toArray, List.set_cons_zero, List.set_cons_succ, i64_w, i32_w]
    rfl
  refine pure_ (i := 5) (N := some 60) (v := ?_) (a' := ?_) #[true, true, true, true, false, true, false, false, false, false, false, false, false, false, false, false, false, false, false, false] rfl rfl (by kernel_rfl) (fun _ _ _ h => h) (Or.inl ⟨by rfl, ?_⟩) ?_ ?_
  rotate_left
  · intro w'
    go_simp
    with_reducible rfl
  rotate_left
  · simp only [Act.put, List.setIfInBounds_toArray, List.set_cons_zero, List.set_cons_succ, i64_w, i32_w]
    rfl
  refine pure_ (i := 6) (N := some 61) (v := ?_) (a' := ?_) #[true, true, true, true, false, true, true, false, false, false, false, false, false, false, false, false, false, false, false, false] rfl rfl (by kernel_rfl) (fun _ _ _ h => h) (Or.inl ⟨by rfl, ?_⟩) ?_ ?_
  rotate_left
  · intro w'
    go_simp
    with_reducible rfl
  rotate_left
  · simp only [Act.put, List.setIfInBounds_toArray, List.set_cons_zero, List.set_cons_succ, i64_w, i32_w]
    rfl
  refine pure_ (i := 7) (N := some 62) (v := ?_) (a' := ?_) #[true, true, true, true, false, true, true, true, false, false, false, false, false, false, false, false, false, false, false, false] rfl rfl (by kernel_rfl) (fun _ _ _ h => h) (Or.inl ⟨by rfl, ?_⟩) ?_ ?_
  rotate_left
  · intro w'
    go_simp
    with_reducible rfl
  rotate_left
  · simp only [Act.put, List.setIfInBounds_toArray, List.set_cons_zero, List.set_cons_succ, i64_w, i32_w]
    rfl
  refine take_ (i := 4) (N := some 59) (v := ?_) (a' := ?_) #[true, true, true, true, true, true, true, true, false, false, false, false, false, false, false, false, false, false, false, false] rfl rfl (by kernel_rfl) (fun _ _ _ h => h) (Or.inl ⟨by rfl, ?_⟩) hHeld ?_ ?_
  rotate_left
  · rintro w' ⟨s0, s1⟩
    go_simp
    with_reducible rfl
  rotate_left
  · simp only [Act.put, List.setIfInBounds_toArray, List.set_cons_zero, List.set_cons_succ, i64_w, i32_w]
    rfl
  refine take_ (i := 8) (N := some 63) (v := ?_) (a' := ?_) #[true, true, true, true, true, true, true, true, true, false, false, false, false, false, false, false, false, false, false, false] rfl rfl (by kernel_rfl) (fun _ _ _ h => h) (Or.inl ⟨by rfl, ?_⟩) hHeld ?_ ?_
  rotate_left
  · rintro w' ⟨s0, s1⟩
    go_simp
    with_reducible rfl
  rotate_left
  · simp only [Act.put, List.setIfInBounds_toArray, List.set_cons_zero, List.set_cons_succ, i64_w, i32_w]
    rfl
  refine one_ (i := 9) (N := some 64) #[true, true, true, true, true, true, true, true, true, true, false, false, false, false, false, false, false, false, false, false] rfl rfl (by kernel_rfl) (by decide) (fun K hK => ?_)
  have hT9 := Lib.tabBelow_of_tabIs HT.out _ AR7.out.drew.rd.bel
  refine goes_ Tryd.func36 (by kernel_rfl) rfl #[.slice A l.length c, .int .i64 (a : Int)] (by rfl) rfl rfl (by simp only [List.map_toArray, List.map_cons, List.map_nil]; rfl) ?_
  with_reducible refine (expr_Parse.calls A c l (a : Int) s1 s2 n m (nx : Int) er _ (Kd.C_below AR7.out.rd.row AR7.out.drew.rd.bel) AR7.out.rd.cap hT9 (HD.out.below AR7.out.drew.rd.bel) (HM.out.below AR7.out.drew.rd.bel) HP.out).mono ?_
  rintro e w6 ⟨rfl, hb⟩
  refine ⟨_, rfl, ?_⟩
  have AR8 := Aside0.mk (AR7.out.drew.below hb)
  refine hK.out _ _ ⟨((hb.cell (World.block_lt_of_cell? _ _ hHeld.1)).trans hHeld.1), ((hb.cell (World.block_lt_of_cell? _ _ hHeld.2)).trans hHeld.2)⟩ (fun hHeld => ?_)
  clear hK K
  refine norm_ (a' := ?_) ?_ ?_
  rotate_left
  · show Act.put _ (some 64) _ = _
    simp only [Act.put, List.setIfInBounds_toArray, List.set_cons_zero, List.set_cons_succ, i64_w, i32_w]
    rfl
  refine pure_ (i := 10) (N := some 54) (v := ?_) (a' := ?_) #[true, true, true, true, true, true, true, true, true, true, true, false, false, false, false, false, false, false, false, false] rfl rfl (by kernel_rfl) (fun _ _ _ h => h) (Or.inl ⟨by rfl, ?_⟩) ?_ ?_
  rotate_left
  · intro w'
    go_simp
    with_reducible rfl
  rotate_left
  · simp only [Act.put, List.setIfInBounds_toArray, List.set_cons_zero, List.set_cons_succ, i64_w, i32_w]
    rfl
  refine pure_ (i := 11) (N := some 65) (v := ?_) (a' := ?_) #[true, true, true, true, true, true, true, true, true, true, true, true, false, false, false, false, false, false, false, false] rfl rfl (by kernel_rfl) (fun _ _ _ h => h) (Or.inl ⟨by rfl, ?_⟩) ?_ ?_
  rotate_left
  · intro w'
    go_simp
    with_reducible rfl
  rotate_left
  · simp only [Act.put, List.setIfInBounds_toArray, List.set_cons_zero, List.set_cons_succ, i64_w, i32_w]
    rfl
  refine pure_ (i := 12) (N := some 66) (v := ?_) (a' := ?_) #[true, true, true, true, true, true, true, true, true, true, true, true, true, false, false, false, false, false, false, false] rfl rfl (by kernel_rfl) (fun _ _ _ h => h) (Or.inl ⟨by rfl, ?_⟩) ?_ ?_
  rotate_left
  · intro w'
    go_simp
    with_reducible rfl
  rotate_left
  · simp only [Act.put, List.setIfInBounds_toArray, List.set_cons_zero, List.set_cons_succ, i64_w, i32_w]
    rfl
  refine pure_ (i := 13) (N := some 67) (v := ?_) (a' := ?_) #[true, true, true, true, true, true, true, true, true, true, true, true, true, true, false, false, false, false, false, false] rfl rfl (by kernel_rfl) (fun _ _ _ h => h) (Or.inl ⟨by rfl, ?_⟩) ?_ ?_
  rotate_left
  · intro w'
    go_simp
    with_reducible rfl
  rotate_left
  · simp only [Act.put, List.setIfInBounds_toArray, List.set_cons_zero, List.set_cons_succ, i64_w, i32_w]
    rfl
  refine pure_ (i := 14) (N := some 68) (v := ?_) (a' := ?_) #[true, true, true, true, true, true, true, true, true, true, true, true, true, true, true, false, false, false, false, false] rfl rfl (by kernel_rfl) (fun _ _ _ h => h) (Or.inl ⟨by rfl, ?_⟩) ?_ ?_
  rotate_left
  · intro w'
    go_simp
    with_reducible rfl
  rotate_left
  · simp only [Act.put, List.setIfInBounds_toArray, List.set_cons_zero, List.set_cons_succ, i64_w, i32_w]
    rfl
  refine last_ (i := 15) (N := none) #[true, true, true, true, true, true, true, true, true, true, true, true, true, true, true, true, false, false, false, false] rfl rfl (by kernel_rfl) (by decide) (fun K hK => ?_)
  have v0 := (blk_cell AR8.out.box 0)
  have v1 := (blk_cell AR8.out.box 1)
  have v2 := (blk_cell AR8.out.box 2)
  have v3 := (blk_cell AR8.out.box 3)
  have v4 := (blk_cell AR8.out.box 4)
  have v5 := (blk_cell AR8.out.box 5)
  have v6 := (blk_cell AR8.out.box 6)
  have vf0 := blk_frozen AR8.out.box 0
  have vf1 := blk_frozen AR8.out.box 1
  have vf2 := blk_frozen AR8.out.box 2
  have vf3 := blk_frozen AR8.out.box 3
  have vf4 := blk_frozen AR8.out.box 4
  have vf5 := blk_frozen AR8.out.box 5
  have vf6 := blk_frozen AR8.out.box 6
  simp only [aV, z32, z30, List.getElem?_toArray, List.getElem?_cons_zero, List.getElem?_cons_succ] at v0 v1 v2 v3 v4 v5 v6
  refine skip_ (w1 := ?_) (by rfl) rfl ?_ ?_
  rotate_left
  · go_simp
    rfl
  refine hK.out _ _ ?_
  clear hK K
  refine pure_ (i := 16) (N := some 69) (v := ?_) (a' := ?_) #[true, true, true, true, true, true, true, true, true, true, true, true, true, true, true, true, true, false, false, false] rfl rfl (by kernel_rfl) (fun _ _ _ h => h) (Or.inl ⟨by rfl, ?_⟩) ?_ ?_
  rotate_left
  · intro w'
    go_simp
    with_reducible rfl
  rotate_left
  · simp only [Act.put, List.setIfInBounds_toArray, List.set_cons_zero, List.set_cons_succ, i64_w, i32_w]
    rfl
  refine pure_ (i := 17) (N := some 70) (v := ?_) (a' := ?_) #[true, true, true, true, true, true, true, true, true, true, true, true, true, true, true, true, true, true, false, false] rfl rfl (by kernel_rfl) (fun _ _ _ h => h) (Or.inl ⟨by rfl, ?_⟩) ?_ ?_
  rotate_left
  · intro w'
    go_simp
    with_reducible rfl
  rotate_left
  · simp only [Act.put, List.setIfInBounds_toArray, List.set_cons_zero, List.set_cons_succ, i64_w, i32_w]
    rfl
  refine last_ (i := 18) (N := none) #[true, true, true, true, true, true, true, true, true, true, true, true, true, true, true, true, true, true, true, false] rfl rfl (by kernel_rfl) (by decide) (fun K hK => ?_)
  have y1 := AR8.out.rd.cell1
  have yf := blk_frozen AR8.out.rd.blk 1
  have ng : g ≠ p := AR8.out.ne
  have ng2 : p ≠ g := ng.symm
  refine skip_ (w1 := ?_) (by rfl) rfl ?_ ?_
  rotate_left
  · go_simp
    rfl
  refine hK.out _ _ ?_
  clear hK K
  refine pure_ (i := 19) (N := some 3) (v := ?_) (a' := ?_) #[true, true, true, true, true, true, true, true, true, true, true, true, true, true, true, true, true, true, true, true] rfl rfl (by kernel_rfl) (fun _ _ _ h => h) (Or.inl ⟨by rfl, ?_⟩) ?_ ?_
  rotate_left
  · intro w'
    go_simp
    with_reducible rfl
  rotate_left
  · simp only [Act.put, List.setIfInBounds_toArray, List.set_cons_zero, List.set_cons_succ, i64_w, i32_w]
    rfl
  refine done_ (by kernel_rfl) ?_
  obtain ⟨w9, hw9, AR9⟩ : ∃ V, (((((w6.setCell ⟨p, 2, none⟩ (.string s1)).setCell ⟨p, 3, none⟩ (.string s2)).setCell ⟨p, 4, none⟩ (.int .i64 n)).setCell ⟨p, 5, none⟩ (.int .u8 m)).setCell ⟨g, 1, none⟩ (.int .i64 (nx : Int))) = V ∧ Aside0 (AR w0 W V g A c l nx p (⟨2, 0, ⟨s1, s2, n, m⟩, (⟨#[]⟩ : ByteArray)⟩ : S32)) := ⟨_, rfl, ⟨((((AR8.out.setx (y := ⟨2, 0, ⟨s1, (⟨#[]⟩ : ByteArray), 0, 0⟩, (⟨#[]⟩ : ByteArray)⟩) 2 (.string s1) rfl).setx (y := ⟨2, 0, ⟨s1, s2, 0, 0⟩, (⟨#[]⟩ : ByteArray)⟩) 3 (.string s2) rfl).setx (y := ⟨2, 0, ⟨s1, s2, n, 0⟩, (⟨#[]⟩ : ByteArray)⟩) 4 (.int .i64 n) rfl).setx (y := (⟨2, 0, ⟨s1, s2, n, m⟩, (⟨#[]⟩ : ByteArray)⟩ : S32)) 5 (.int .u8 m) rfl).seti nx⟩⟩
  rw [hw9]
  clear hw9 AR7 AR8 g0 g1
  go_wp2
  refine bodyPost_ret (results_ct rfl _ _ p 32 (aV (⟨2, 0, ⟨s1, s2, n, m⟩, (⟨#[]⟩ : ByteArray)⟩ : S32)) (0, 0) _ rfl (AR9.out.box) Tryd.underlying32 rfl (by kernel_rfl)) rfl ?_
  exact ⟨rfl, AR9.out.fr, _, AR9.out.rd⟩
abbrev XA := S32
abbrev XE := S30
def toE (x : Ex.X) : XE := ⟨⟨x.s.toArray⟩, ⟨x.l.toArray⟩, x.n, (x.m : Int)⟩
def memB (l : List S53) (a : Nat) (x : XE) : Sum (XA × Nat) Nat := match byAt l a with | some n => .inl (⟨3, (n : Int), x, ⟨#[]⟩⟩, a + 3) | none => .inr 170
def exprB (l : List S53) (r : Ex.X × Nat × Nat) : Sum (XA × Nat) Nat :=
  if r.2.2 ≠ 0 then .inr r.2.2 else if r.1.m = 0 ∧ (Li.regL r.1.s).isSome = true then .inr 160 else if markB l r.2.1 40 = true then memB l r.2.1 (toE r.1) else .inl (⟨2, 0, toE r.1, ⟨#[]⟩⟩, r.2.1)
def restB (l : List S53) (a : Nat) : Sum (XA × Nat) Nat := match regAt l a with
  | some n => .inl (⟨1, (n : Int), z30, ⟨#[]⟩⟩, a + 1)
  | none => if markB l a 40 = true then memB l a z30 else exprB l (Ex.parseL (l.map ZT.toTok) (a : Int))
def argB (l : List S53) (a : Nat) : Sum (XA × Nat) Nat := match l[a]? with
  | some t => if t.f0 = 3 then .inl (⟨4, 0, z30, t.f1⟩, a + 1) else restB l a
  | none => restB l a
def ArgPost (w0 W : World) (g : Nat) (A : Option Addr) (c : Nat) (l : List S53) (r : Sum (XA × Nat) Nat) (e : Ending) (W' : World) : Prop := match r with
  | .inl (x, a') => e = .returned (.tuple #[.agg (aV x), .int .i64 0]) ∧ FR W W' g ∧ RD w0 W' g A c l a'
  | .inr er => ∃ x, e = .returned (.tuple #[.agg (aV x), .int .i64 (er : Int)]) ∧ FR W W' g ∧ ∃ a', RD w0 W' g A c l a'
theorem parse_le (l : List Lex.Tok) (a : Nat) : (Ex.parseL l (a : Int)).2.1 ≤ l.length := by
  unfold Ex.parseL
  split
  · exact Nat.zero_le _
  split
  · exact Nat.zero_le _
  split
  · exact Nat.zero_le _
  · exact Nat.sub_le _ _
theorem parse_word (l : List Lex.Tok) (a : Nat) (h : (Ex.parseL l (a : Int)).2.2 = 0) : (Ex.parseL l (a : Int)).1.s.length ≤ 1000 := by
  obtain ⟨_, _, _, hc, _⟩ := Ex.parse_only (y := (Ex.parseL l (a : Int)).1) (n := (Ex.parseL l (a : Int)).2.1) (Prod.ext rfl (Prod.ext rfl h))
  obtain ⟨hs, _, _⟩ := Ex.check_parts hc
  rcases hs with h | h
  · rw [h]; simp
  · unfold Ex.wordL at h
    simp only [Bool.and_eq_true, Bool.or_eq_true] at h
    rcases h.1 with h | h
    · cases hl : (Ex.parseL l (a : Int)).1.s with
      | nil => simp
      | cons c t =>
        rw [hl] at h
        simp only [Lex.nameL, Bool.and_eq_true, decide_eq_true_eq] at h
        simp only [List.length_cons]
        omega
    · simp only [Lex.localL, Bool.and_eq_true, decide_eq_true_eq] at h
      omega
theorem sum_f (x : Ex.X) (h : x.s.length ≤ 1000) : line_sum.f ⟨x.s.toArray⟩ ⟨x.l.toArray⟩ x.n (x.m : Int) = some (!(decide (x.m = 0) && (Li.regL x.s).isSome)) := by
  have hr : line_Register.f ⟨x.s.toArray⟩ = some (LR.regV ⟨x.s.toArray⟩) := by
    unfold line_Register.f
    rw [if_pos]
    show x.s.toArray.size ≤ 1000000
    simp
    omega
  unfold line_sum.f
  rw [hr]
  simp only [Option.bind_some]
  have hv : (LR.regV ⟨x.s.toArray⟩).2 = if (Li.regL x.s).isSome then 0 else 6 := by
    unfold LR.regV
    simp only
    cases Li.regL x.s <;> rfl
  rw [hv]
  by_cases hm : x.m = 0
  · rw [if_neg (by omega), decide_eq_true hm]
    cases Li.regL x.s <;> rfl
  · rw [if_pos (by omega), decide_eq_false hm]
    rfl
theorem arg_walk (w0 W : World) (g : Nat) (A : Option Addr) (c : Nat) (l : List S53) (a : Nat) (hl : l.length ≤ 1000000) (ha : a ≤ l.length) (ok : okB l) (hT : Lib.TabIs Tryd.prog w0 "internal/strconv.uint64pow10" .u64 Lib.pow10Tab) (hD : LexW.LexD w0) (hM : ExW.ModsAt w0) (hG : LiW.RegsAt w0) (h : RD w0 W g A c l a) :
    Calls Tryd.prog 22 #[.pointer (some ⟨g, 0, none⟩)] W fun e W' => ArgPost w0 W g A c l (argB l a) e W' := by
  have hs : ∀ x ∈ l, x.f1.size ≤ 1000000 := fun x hx => (ok.2 x hx).2.1
  have hpf : expr_Parse.f l (a : Int) = some (⟨(Ex.parseL (l.map ZT.toTok) (a : Int)).1.s.toArray⟩, ⟨(Ex.parseL (l.map ZT.toTok) (a : Int)).1.l.toArray⟩, (Ex.parseL (l.map ZT.toTok) (a : Int)).1.n, ((Ex.parseL (l.map ZT.toTok) (a : Int)).1.m : Int), ((Ex.parseL (l.map ZT.toTok) (a : Int)).2.1 : Int), ((Ex.parseL (l.map ZT.toTok) (a : Int)).2.2 : Int)) := by
    unfold expr_Parse.f
    rw [if_pos ok]
  cases ht : l[a]? with
  | some t =>
    by_cases hk : t.f0 = 3
    · have : argB l a = .inl (⟨4, 0, z30, t.f1⟩, a + 1) := by unfold argB; rw [ht]; exact if_pos hk
      rw [this]
      exact arg_text w0 W g A c l a hl ha hs hT hD hM hG h t ht hk
    · have hr : argB l a = restB l a := by unfold argB; rw [ht]; exact if_neg hk
      rw [hr]
      unfold restB
      cases hq : regAt l a with
      | some n => exact arg_reg w0 W g A c l a hl ha hs hT hD hM hG h t ht hk n hq
      | none =>
        simp only
        cases hm : markB l a 40 with
        | true =>
          rw [if_pos rfl]
          unfold memB
          cases hb : byAt l a with
          | some n => exact arg_mem_some w0 W g A c l a hl ha hs hT hD hM hG h t ht hk hq hm n hb
          | none =>
            exact (arg_mem_none w0 W g A c l a hl ha hs hT hD hM hG h t ht hk hq hm hb).mono fun e W' ⟨h1, h2, h3⟩ => ⟨_, h1, h2, h3⟩
        | false =>
          rw [if_neg (by simp)]
          generalize hP : Ex.parseL (l.map ZT.toTok) (a : Int) = r at hpf
          unfold exprB
          by_cases he : r.2.2 = 0
          · rw [if_neg (by simpa using he)]
            have hle : r.2.1 ≤ l.length := by rw [← hP]; have := parse_le (l.map ZT.toTok) a; rw [List.length_map] at this; exact this
            have hsf := sum_f r.1 (by rw [← hP]; exact parse_word _ _ (by rw [hP]; exact he))
            have he' : (r.2.2 : Int) = 0 := by omega
            by_cases hc : r.1.m = 0 ∧ (Li.regL r.1.s).isSome = true
            · rw [if_pos hc]
              rw [decide_eq_true hc.1, hc.2] at hsf
              exact (arg_psum w0 W g A c l a hl ha hs hT hD hM hG h t ht hk hq hm _ _ _ _ _ _ hpf he' hsf).mono fun e W' ⟨h1, h2, h3⟩ => ⟨_, h1, h2, h3⟩
            · rw [if_neg hc]
              have hsf : line_sum.f ⟨r.1.s.toArray⟩ ⟨r.1.l.toArray⟩ r.1.n (r.1.m : Int) = some true := by
                rw [hsf]
                congr 1
                cases hd : decide (r.1.m = 0) with
                | false => rfl
                | true =>
                  cases hi : (Li.regL r.1.s).isSome with
                  | false => rfl
                  | true => exact absurd ⟨of_decide_eq_true hd, hi⟩ hc
              cases hn : markB l r.2.1 40 with
              | true =>
                rw [if_pos rfl]
                unfold memB
                cases hb : byAt l r.2.1 with
                | some k => exact arg_pmem_some w0 W g A c l a hl ha hs hT hD hM hG h t ht hk hq hm _ _ _ _ _ _ hpf he' hsf hle hn k hb
                | none => exact (arg_pmem_none w0 W g A c l a hl ha hs hT hD hM hG h t ht hk hq hm _ _ _ _ _ _ hpf he' hsf hle hn hb).mono fun e W' ⟨h1, h2, h3⟩ => ⟨_, h1, h2, h3⟩
              | false =>
                rw [if_neg (by simp)]
                exact arg_pok w0 W g A c l a hl ha hs hT hD hM hG h t ht hk hq hm _ _ _ _ _ _ hpf he' hsf hle hn
          · rw [if_pos he]
            exact (arg_perr w0 W g A c l a hl ha hs hT hD hM hG h t ht hk hq hm _ _ _ _ _ _ hpf (by omega)).mono fun e W' ⟨h1, h2, h3⟩ => ⟨_, h1, h2, h3⟩
  | none =>
    have hlt : ¬ a < l.length := fun hlt => by rw [List.getElem?_eq_getElem hlt] at ht; cases ht
    have hq : regAt l a = none := by unfold regAt; rw [ht]
    have hm : markB l a 40 = false := by unfold markB; rw [ht]
    have hr : argB l a = restB l a := by unfold argB; rw [ht]
    rw [hr]
    unfold restB
    rw [hq]
    simp only
    rw [if_neg (by rw [hm]; simp)]
    have hne : (Ex.parseL (l.map ZT.toTok) (a : Int)).2.2 ≠ 0 := by
      intro e
      obtain ⟨_, h1, h2, _⟩ := Ex.parse_only (y := (Ex.parseL (l.map ZT.toTok) (a : Int)).1) (n := (Ex.parseL (l.map ZT.toTok) (a : Int)).2.1) (Prod.ext rfl (Prod.ext rfl e))
      rw [Int.toNat_natCast] at h1
      rw [List.length_map] at h2
      omega
    generalize Ex.parseL (l.map ZT.toTok) (a : Int) = r at hpf hne
    unfold exprB
    rw [if_pos hne]
    exact (arg_out w0 W g A c l a hl ha hs hT hD hM hG h hlt hq hm _ _ _ _ _ _ hpf (by omega)).mono fun e W' ⟨h1, h2, h3⟩ => ⟨_, h1, h2, h3⟩
theorem arg_ok (w0 W : World) (g : Nat) (A : Option Addr) (c : Nat) (l : List S53) (a : Nat) (hl : l.length ≤ 1000000) (ha : a ≤ l.length) (ok : okB l) (hT : Lib.TabIs Tryd.prog w0 "internal/strconv.uint64pow10" .u64 Lib.pow10Tab) (hD : LexW.LexD w0) (hM : ExW.ModsAt w0) (hG : LiW.RegsAt w0) (h : RD w0 W g A c l a) (x : XA) (a' : Nat) (hq : argB l a = .inl (x, a')) :
    Calls Tryd.prog 22 #[.pointer (some ⟨g, 0, none⟩)] W fun e W' => e = .returned (.tuple #[.agg #[.int .u8 x.f0, .int .i64 x.f1, .string x.f2.f0, .string x.f2.f1, .int .i64 x.f2.f2, .int .u8 x.f2.f3, .string x.f3], .int .i64 0]) ∧ FR W W' g ∧ RD w0 W' g A c l a' := by
  have := arg_walk w0 W g A c l a hl ha ok hT hD hM hG h
  rw [hq] at this
  exact this
theorem arg_no (w0 W : World) (g : Nat) (A : Option Addr) (c : Nat) (l : List S53) (a : Nat) (hl : l.length ≤ 1000000) (ha : a ≤ l.length) (ok : okB l) (hT : Lib.TabIs Tryd.prog w0 "internal/strconv.uint64pow10" .u64 Lib.pow10Tab) (hD : LexW.LexD w0) (hM : ExW.ModsAt w0) (hG : LiW.RegsAt w0) (h : RD w0 W g A c l a) (er : Nat) (hq : argB l a = .inr er) :
    Calls Tryd.prog 22 #[.pointer (some ⟨g, 0, none⟩)] W fun e W' => ∃ x : XA, e = .returned (.tuple #[.agg #[.int .u8 x.f0, .int .i64 x.f1, .string x.f2.f0, .string x.f2.f1, .int .i64 x.f2.f2, .int .u8 x.f2.f3, .string x.f3], .int .i64 (er : Int)]) ∧ FR W W' g ∧ ∃ a', RD w0 W' g A c l a' := by
  have := arg_walk w0 W g A c l a hl ha ok hT hD hM hG h
  rw [hq] at this
  exact this
theorem mark_lt {l : List S53} {i : Nat} {c : UInt8} (h : markB l i c = true) : i < l.length := by
  rcases Nat.lt_or_ge i l.length with g | g
  · exact g
  · unfold markB at h
    rw [List.getElem?_eq_none g] at h
    cases h
theorem by_lt {l : List S53} {a n : Nat} (h : byAt l a = some n) : a + 3 ≤ l.length := by
  unfold byAt at h
  cases hr : regAt l (a + 1) with
  | none => rw [hr] at h; cases h
  | some k =>
    rw [hr] at h
    simp only at h
    cases hm : markB l (a + 2) 41 with
    | true => have := mark_lt hm; omega
    | false => rw [hm] at h; simp at h
theorem mem_lt {l : List S53} {a a' : Nat} {x : XE} {y : XA} (h : memB l a x = .inl (y, a')) : a < a' ∧ a' ≤ l.length := by
  unfold memB at h
  cases hb : byAt l a with
  | none => rw [hb] at h; cases h
  | some n =>
    rw [hb] at h
    cases h
    have := by_lt hb
    omega
theorem arg_lt {l : List S53} {a a' : Nat} {y : XA} (h : argB l a = .inl (y, a')) : a < a' ∧ a' ≤ l.length := by
  have rest : restB l a = .inl (y, a') → a < a' ∧ a' ≤ l.length := by
    intro h
    unfold restB at h
    cases hq : regAt l a with
    | some n =>
      rw [hq] at h
      cases h
      have : a < l.length := by
        rcases Nat.lt_or_ge a l.length with g | g
        · exact g
        · unfold regAt at hq
          rw [List.getElem?_eq_none g] at hq
          cases hq
      omega
    | none =>
      rw [hq] at h
      simp only at h
      by_cases hm : markB l a 40 = true
      · rw [if_pos hm] at h
        exact mem_lt h
      · rw [if_neg hm] at h
        unfold exprB at h
        by_cases he : (Ex.parseL (l.map ZT.toTok) (a : Int)).2.2 = 0
        · obtain ⟨_, h1, h2, _⟩ := Ex.parse_only (y := (Ex.parseL (l.map ZT.toTok) (a : Int)).1) (n := (Ex.parseL (l.map ZT.toTok) (a : Int)).2.1) (Prod.ext rfl (Prod.ext rfl he))
          rw [Int.toNat_natCast] at h1
          rw [List.length_map] at h2
          rw [if_neg (by simpa using he)] at h
          split at h
          · cases h
          split at h
          · have := mem_lt h
            omega
          · cases h
            exact ⟨h1, h2⟩
        · rw [if_pos he] at h
          cases h
  unfold argB at h
  cases ht : l[a]? with
  | none => rw [ht] at h; exact rest h
  | some t =>
    rw [ht] at h
    simp only at h
    by_cases hk : t.f0 = 3
    · rw [if_pos hk] at h
      cases h
      have := (List.getElem?_eq_some_iff.1 ht).1
      omega
    · rw [if_neg hk] at h
      exact rest h
theorem arg_er {l : List S53} {a er : Nat} (h : argB l a = .inr er) : er ≠ 0 := by
  have mem : ∀ {b x}, memB l b x = .inr er → er ≠ 0 := by
    intro b x h
    unfold memB at h
    cases hb : byAt l b with
    | none => rw [hb] at h; cases h; omega
    | some n => rw [hb] at h; cases h
  have rest : restB l a = .inr er → er ≠ 0 := by
    intro h
    unfold restB at h
    cases hq : regAt l a with
    | some n => rw [hq] at h; cases h
    | none =>
      rw [hq] at h
      simp only at h
      by_cases hm : markB l a 40 = true
      · rw [if_pos hm] at h
        exact mem h
      · rw [if_neg hm] at h
        unfold exprB at h
        split at h
        · rename_i he
          cases h
          exact he
        split at h
        · cases h; omega
        split at h
        · exact mem h
        · cases h
  unfold argB at h
  cases ht : l[a]? with
  | none => rw [ht] at h; exact rest h
  | some t =>
    rw [ht] at h
    simp only at h
    split at h
    · cases h
    · exact rest h
def argsB (l : List S53) : Nat → Nat → List XA → Sum (List XA) Nat
  | 0, _, out => .inl out
  | d + 1, a, out =>
    if l.length ≤ a then .inl out
    else if out ≠ [] ∧ markB l a 44 = false then .inr 170
    else match argB l (if out = [] then a else a + 1) with
      | .inr er => .inr er
      | .inl (x, a') => if out.length = 8 then .inr 4 else argsB l d a' (out ++ [x])
end LD
end

end Go.Proofs.YtbfndlfemhidaaaDoor.P
