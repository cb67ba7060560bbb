/- Texts of this seat in one (Px11), what nothing speaks of left out: by pack.py, a program of this session. -/
import Derived.Test.YtbfndlfemhidaaaGreatDoorPx0
import Derived.Test.YtbfndlfemhidaaaGreatDoorPx3
import Derived.Test.YtbfndlfemhidaaaGreatDoorPx4
import Derived.Test.YtbfndlfemhidaaaGreatDoorPx5
import Derived.Test.YtbfndlfemhidaaaGreatDoorPx10
namespace Go.Proofs.YtbfndlfemhidaaaGreatDoor.P
open Go.RowKit Go.Proofs.YtbfndlfemhidaaaGreatDoor.LexP Go.Proofs.YtbfndlfemhidaaaGreatDoorW.PrintWords Go.Proofs.YtbfndlfemhidaaaGreatDoorW.PrintLast Go.Proofs.YtbfndlfemhidaaaGreatDoorW.PrintMore
theorem qbd2 {P : Prop} (h : P := by rw [List.length_map]; omega) : P := h
theorem qbd1 {P : Prop} (h : P := by first | (go_simp; done) | (go_simp; rfl)) : P := h
theorem qbd0 {P : Prop} (h : P := by rintro (h | h); exact h hs; exact hl2 h) : P := h
attribute [local go_sem] max2_int min2_int max_two min_two max_three min_three max_four min_four   -- for this text's walks alone
set_option linter.unusedVariables false
set_option linter.unusedSimpArgs false


section
open Go.Proofs.YtbfndlfemhidaaaGreatDoor.Lex
def okB (l0 : List S61) : Prop := l0.length ≤ 1000000000000 ∧ ∀ x ∈ l0, 0 ≤ x.f0 ∧ x.f1.size ≤ 1000000 ∧ -9223372036854775808 ≤ x.f2 ∧ x.f2 < 9223372036854775808
instance (l0 : List S61) : Decidable (okB l0) := by unfold okB; infer_instance
def expr_Parse.f (l0 : List S61) (a1 : Int) : Option (ByteArray × ByteArray × Int × Int × Int × Int) :=
 if okB l0 then some (⟨(Ex.parseL (l0.map ZT.toTok) a1).1.s.toArray⟩, ⟨(Ex.parseL (l0.map ZT.toTok) a1).1.l.toArray⟩, (Ex.parseL (l0.map ZT.toTok) a1).1.n, ((Ex.parseL (l0.map ZT.toTok) a1).1.m : Int), ((Ex.parseL (l0.map ZT.toTok) a1).2.1 : Int), ((Ex.parseL (l0.map ZT.toTok) a1).2.2 : Int)) else none
def xV (x : Ex.X) : Array Value := #[.string ⟨x.s.toArray⟩, .string ⟨x.l.toArray⟩, .int .i64 x.n, .int .u8 (x.m : Int)]
structure PS (w0 W : World) (g b : Nat) (l0 : List S61) (a : Nat) (x : Ex.X) : Prop where
 i : IsS134 w0 W g l0 (a : Int)
 x : W.heap[b]? = some (.cells (xV x) 38 (0, 0))
 ge : w0.heap.size ≤ b
 bel : Below w0.heap.size w0 W
theorem PS.below {w0 W W1 : World} {g b a : Nat} {l0 : List S61} {x : Ex.X} (h : PS w0 W g b l0 a x) (hb : Below W.heap.size W W1) : PS w0 W1 g b l0 a x :=
 ⟨h.i.below hb, blk_below h.x hb, h.ge, below_step h.bel hb⟩
theorem PS.drew {w0 W : World} {g b a : Nat} {l0 : List S61} {x : Ex.X} (h : PS w0 W g b l0 a x) : PS w0 W.drew g b l0 a x := ⟨h.i.drew, blk_drew h.x, h.ge, below_drew1 h.bel⟩
theorem PS.lt {w0 W : World} {g b a : Nat} {l0 : List S61} {x : Ex.X} (h : PS w0 W g b l0 a x) : g < W.heap.size := by
 obtain ⟨A, c, hg, _, _⟩ := h.i
 exact blk_lt hg
theorem PS.ne {w0 W : World} {g b a : Nat} {l0 : List S61} {x : Ex.X} (h : PS w0 W g b l0 a x) : g ≠ b := by
 obtain ⟨A, c, hg, _, _⟩ := h.i
 exact blk_ne hg h.x (by decide)
theorem PS.setx {w0 W : World} {g b a : Nat} {l0 : List S61} {x y : Ex.X} (h : PS w0 W g b l0 a x) (j : Nat) (v : Value) (e : (xV x).setIfInBounds j v = xV y) : PS w0 (W.setCell ⟨b, j, none⟩ v) g b l0 a y := by
 refine ⟨?_, blk_put h.x j v e, h.ge, below_set h.bel h.ge⟩
 obtain ⟨A, c, hg, hge, hr⟩ := h.i
 exact ⟨A, c, blk_far hg h.ne _, hge, hr⟩
theorem PS.seti {w0 W : World} {g b a : Nat} {l0 : List S61} {x : Ex.X} (h : PS w0 W g b l0 a x) (a' : Nat) : PS w0 (W.setCell ⟨g, 1, none⟩ (.int .i64 (a' : Int))) g b l0 a' x := by
 obtain ⟨A, c, hg, hge, hr⟩ := h.i
 exact ⟨⟨A, c, blk_put hg 1 _ rfl, hge, hr⟩, blk_far h.x h.ne.symm _, h.ge, below_set h.bel hge⟩
theorem PS.other {w0 W : World} {g b a q : Nat} {l0 : List S61} {x : Ex.X} (h : PS w0 W g b l0 a x) (hg : g ≠ q) (hb : b ≠ q) (hq : w0.heap.size ≤ q) (j : Nat) (v : Value) : PS w0 (W.setCell ⟨q, j, none⟩ v) g b l0 a x := by
 obtain ⟨A, c, hh, hge, hr⟩ := h.i
 exact ⟨⟨A, c, blk_far hh hg _, hge, hr⟩, blk_far h.x hb _, h.ge, below_set h.bel hq⟩
def okT (l0 : List S61) : Prop := l0.length ≤ 1000000000000 ∧ ∀ x ∈ l0, 0 ≤ x.f0 ∧ x.f1.size ≤ 1000000 ∧ Lex.numOk (ZT.toTok x)
theorem rd41 (l : List S61) (i : Nat) (h : i < l.length) : rd_T61 l (i : Int) = l[i] := by
 simp [rd_T61, List.getD, List.getElem?_eq_getElem h]
theorem w64_eq (n : Int) : wrap64 n = Ex.w64 n := by
 unfold wrap64 Ex.w64
 omega
theorem word_f (s : ByteArray) (hs : s.size ≤ 1000000) : expr_word.f 2000000 s = some (Ex.wordL s.data.toList) := by
 unfold expr_word.f lex_Check.f
 have ht := ZT.text_f ⟨1, s, 0⟩ (by show (0 : Int) ≤ 1; decide) (by show s.size ≤ 100000000000; omega) (by show -9223372036854775808 ≤ (0 : Int) ∧ (0 : Int) < 9223372036854775808; omega) 2000000 (by simp only; omega)
 simp only at ht
 rw [ht]
 simp only [Option.bind_some]
 have hm : (Lex.textL (ZT.toTok ⟨1, s, 0⟩)).2 = (Lex.nameL s.data.toList || Lex.localL s.data.toList) := by
  simp [Lex.textL, ZT.toTok]
 rw [hm]
 unfold Ex.wordL
 cases hc : (Lex.nameL s.data.toList || Lex.localL s.data.toList) with
 | false => simp
 | true =>
  have hne : 0 < s.size := by
   have : s.data.toList ≠ [] := by
    intro e
    rw [e] at hc
    exact absurd hc (by decide)
   rw [← ZT.size_data]
   exact List.length_pos_iff.2 this
  have hg : s.data.toList.getD 0 0 = s[0] := by
   have : 0 < s.data.toList.length := by rw [ZT.size_data]; exact hne
   simp [List.getD, List.getElem?_eq_getElem this]
   rfl
  have hb : bt s 0 = (s[0].toNat : Int) := ZT.bt_lt s 0 hne
  have hp : ∀ c : UInt8, (((c.toNat : Int) != 37) = !(c == 37)) := by
   intro c
   have := Lex.bytes (p := fun c => ((c.toNat : Int) != 37) == !(c == 37)) (by decide +kernel) c
   simpa using this
  simp only [if_true, Option.bind_some]
  rw [if_pos (by omega), hb, hg, hp]
  simp
theorem word_calls (s : ByteArray) (hs : s.size ≤ 1000000) (w : World) (hT : Lib.TabIs Tryz.prog w "internal/strconv.uint64pow10" .u64 Lib.pow10Tab) (hD : LexW.LexD w) :
  Calls Tryz.prog 119 #[.string s] w fun e w' => e = .returned (.bool (Ex.wordL s.data.toList)) ∧ Below w.heap.size w w' :=
 expr_word.calls 2000000 s _ w hT hD (word_f s hs)
theorem empty_s {s : List UInt8} (h : s = []) : ((⟨s.toArray⟩ : ByteArray).toList != ([] : List UInt8)) = false ∧ (⟨s.toArray⟩ : ByteArray).toList.isEmpty = true ∧ ((⟨s.toArray⟩ : ByteArray).toList == ([] : List UInt8)) = true := by
 subst h
 rw [ByteArray.toList_eq]
 exact ⟨rfl, rfl, rfl⟩
theorem nonempty_s {s : List UInt8} (h : ¬ s = []) : ((⟨s.toArray⟩ : ByteArray).toList != ([] : List UInt8)) = true ∧ (⟨s.toArray⟩ : ByteArray).toList.isEmpty = false ∧ ((⟨s.toArray⟩ : ByteArray).toList == ([] : List UInt8)) = false := by
 rw [ByteArray.toList_eq]
 cases s with
 | nil => exact absurd rfl h
 | cons c s => exact ⟨rfl, rfl, rfl⟩
def termAt (l0 : List S61) (a : Nat) (x : Ex.X) (minus : Bool) : Option Ex.X := match (l0.map ZT.toTok)[a]? with
 | none => none
 | some t => Ex.termT t x minus
def TermPost (w0 : World) (g b : Nat) (l0 : List S61) (a : Nat) (x : Ex.X) (minus : Bool) (e : Ending) (W' : World) : Prop :=
 (∃ y, termAt l0 a x minus = some y ∧ e = .returned (.bool true) ∧ PS w0 W' g b l0 (a + 1) y) ∨ (termAt l0 a x minus = none ∧ e = .returned (.bool false) ∧ ∃ a', PS w0 W' g b l0 a' x)
theorem term_at {l0 : List S61} {a : Nat} (h : a < l0.length) (x : Ex.X) (minus : Bool) : termAt l0 a x minus = Ex.termT (ZT.toTok (rd_T61 l0 (a : Int))) x minus := by
 unfold termAt
 rw [List.getElem?_map, List.getElem?_eq_getElem h, rd41 l0 a h]
 rfl
set_option maxHeartbeats 4000000 in
set_option maxRecDepth 100000 in
theorem term_calls (w0 W : World) (g b : Nat) (l0 : List S61) (a : Nat) (x : Ex.X) (minus : Bool) (ok : okT l0) (hT : Lib.TabIs Tryz.prog w0 "internal/strconv.uint64pow10" .u64 Lib.pow10Tab) (hD : LexW.LexD w0) (h : PS w0 W g b l0 a x) :
  Calls Tryz.prog 131 #[.pointer (some ⟨g, 0, none⟩), .pointer (some ⟨b, 0, none⟩), .bool minus] W fun e W' => TermPost w0 g b l0 a x minus e W' := by
 have HP := Aside0.mk h
 have HT := Aside0.mk hT
 have HD := Aside0.mk hD
 have OK := Aside0.mk ok
 obtain ⟨A, c, HG, hge, HS⟩ := h.i
 have hcz0 := cellS134_0 HG
 have hcz1 := cellS134_1 HG
 have hfz1 := blk_frozen HG 1
 clear HG h hT hD
 by_cases hlt : a < l0.length
 ·
  have hl := ok.1
  have hb1 : wrap64 ((a : Int) + 1) = ((a + 1 : Nat) : Int) := by unfold wrap64; omega
  have p0 : (0 : Int) ≤ (a : Int) := by omega
  have q0 : (a : Int) < (l0.length : Int) := by omega
  obtain ⟨ad, e0, hx0, hx1, hx2⟩ := at_T61 HS (a : Int) p0 q0
  cases e0
  replace hx0 := pw_cell_below HP.out.bel hx0
  replace hx1 := pw_cell_below HP.out.bel hx1
  replace hx2 := pw_cell_below HP.out.bel hx2
  simp only [Int.toNat_natCast] at hx0 hx1 hx2
  have n0 := World.new_ne W _ hcz0
  have n1 := World.new_ne W _ hcz1
  have n2 := World.new_ne W _ hx0
  have n3 := World.new_ne W _ hx1
  have n4 := World.new_ne W _ hx2
  have d0 : decide ((l0.length : Int) ≤ (a : Int)) = false := decide_eq_false (by omega)
  have TA := Aside0.mk (term_at hlt x minus)
  have TF := Aside0.mk (show 0 ≤ (rd_T61 l0 (a : Int)).f0 by rw [rd41 l0 a hlt]; exact (ok.2 _ (List.getElem_mem hlt)).1)
  have TS := Aside0.mk (show (rd_T61 l0 (a : Int)).f1.size ≤ 1000000 by rw [rd41 l0 a hlt]; exact (ok.2 _ (List.getElem_mem hlt)).2.1)
  generalize rd_T61 l0 (a : Int) = t at *
  replace p0 := eq_true p0
  replace q0 := eq_true q0
  go_enter Tryz.func131, Tryz.ntmps131
  go_wp2
  go_quiet (fail)
  go_wp2
  have HP1 := Aside0.mk ((HP.out.below (pw_below_drewN (Below.refl _ _) nq)).drew)
  refine start_ (n := 12) (S := fun w' => w'.cell? ⟨g, 0, none⟩ = some (.slice (some ad) l0.length c) ∧ w'.cell? ⟨g, 1, none⟩ = some (.int .i64 (a : Int)) ∧ w'.cell? (ad.add (a * 3)) = some (.int .u8 t.f0) ∧ w'.cell? ⟨(ad.add (a * 3)).block, (ad.add (a * 3)).off + 1, none⟩ = some (.string t.f1) ∧ w'.cell? ⟨(ad.add (a * 3)).block, (ad.add (a * 3)).off + 2, none⟩ = some (.int .i64 t.f2)) (ds := [11]) #[false, false, false, false, false, false, false, false, false, false, false, false] (by kernel_rfl) rfl rfl ⟨hcz0, hcz1, hx0, hx1, hx2⟩ (fun hHeld => ?_)
  refine pure_ (i := 0) (N := some 19) (v := ?_) (a' := ?_) #[true, false, false, false, false, false, false, false, false, false, false, false] rfl rfl (by kernel_rfl) (fun _ _ _ h => h) (Or.inl ⟨by rfl, ?_⟩) ?_ ?_
  rotate_left
  ·
   intro w'
   go_simp
   with_reducible rfl
  rotate_left
  ·
   simp only [Act.put, List.setIfInBounds_toArray, List.set_cons_zero, List.set_cons_succ, i64_w, i32_w]
   rfl
  refine pure_ (i := 1) (N := some 20) (v := ?_) (a' := ?_) #[true, true, false, false, false, false, false, false, false, false, false, false] rfl rfl (by kernel_rfl) (fun _ _ _ h => h) (Or.inl ⟨by rfl, ?_⟩) ?_ ?_
  rotate_left
  ·
   intro w'
   go_simp
   with_reducible rfl
  rotate_left
  ·
   simp only [Act.put, List.setIfInBounds_toArray, List.set_cons_zero, List.set_cons_succ, i64_w, i32_w]
   rfl
  refine pure_ (i := 2) (N := some 21) (v := ?_) (a' := ?_) #[true, true, true, false, false, false, false, false, false, false, false, false] rfl rfl (by kernel_rfl) (fun _ _ _ h => h) (Or.inl ⟨by rfl, ?_⟩) ?_ ?_
  rotate_left
  ·
   intro w'
   go_simp
   with_reducible rfl
  rotate_left
  ·
   simp only [Act.put, List.setIfInBounds_toArray, List.set_cons_zero, List.set_cons_succ, i64_w, i32_w]
   rfl
  refine pure_ (i := 4) (N := some 23) (v := ?_) (a' := ?_) #[true, true, true, false, true, false, false, false, false, false, false, false] rfl rfl (by kernel_rfl) (fun _ _ _ h => h) (Or.inl ⟨by rfl, ?_⟩) ?_ ?_
  rotate_left
  ·
   intro w'
   go_simp
   with_reducible rfl
  rotate_left
  ·
   simp only [Act.put, List.setIfInBounds_toArray, List.set_cons_zero, List.set_cons_succ, i64_w, i32_w]
   rfl
  refine pure_ (i := 5) (N := some 24) (v := ?_) (a' := ?_) #[true, true, true, false, true, true, false, false, false, false, false, false] rfl rfl (by kernel_rfl) (fun _ _ _ h => h) (Or.inl ⟨by rfl, ?_⟩) ?_ ?_
  rotate_left
  ·
   intro w'
   go_simp
   with_reducible rfl
  rotate_left
  ·
   simp only [Act.put, List.setIfInBounds_toArray, List.set_cons_zero, List.set_cons_succ, i64_w, i32_w]
   rfl
  refine pure_ (i := 6) (N := some 25) (v := ?_) (a' := ?_) #[true, true, true, false, true, true, true, false, false, false, false, false] rfl rfl (by kernel_rfl) (fun _ _ _ h => h) (Or.inl ⟨by rfl, ?_⟩) ?_ ?_
  rotate_left
  ·
   intro w'
   go_simp
   with_reducible rfl
  rotate_left
  ·
   simp only [Act.put, List.setIfInBounds_toArray, List.set_cons_zero, List.set_cons_succ, i64_w, i32_w]
   rfl
  refine take_ (i := 3) (N := some 22) (v := ?_) (a' := ?_) #[true, true, true, true, true, true, true, false, false, false, false, false] rfl rfl (by kernel_rfl) (fun _ _ _ h => h) (Or.inl ⟨by rfl, ?_⟩) hHeld ?_ ?_
  rotate_left
  ·
   rintro w' ⟨s0, s1, s2, s3, s4⟩
   go_simp
   with_reducible rfl
  rotate_left
  ·
   simp only [Act.put, List.setIfInBounds_toArray, List.set_cons_zero, List.set_cons_succ, i64_w, i32_w]
   rfl
  refine take_ (i := 7) (N := some 26) (v := ?_) (a' := ?_) #[true, true, true, true, true, true, true, true, false, false, false, false] rfl rfl (by kernel_rfl) (fun _ _ _ h => h) (Or.inl ⟨by rfl, ?_⟩) hHeld ?_ ?_
  rotate_left
  ·
   rintro w' ⟨s0, s1, s2, s3, s4⟩
   go_simp
   with_reducible rfl
  rotate_left
  ·
   simp only [Act.put, List.setIfInBounds_toArray, List.set_cons_zero, List.set_cons_succ, i64_w, i32_w]
   rfl
  refine pure_ (i := 8) (N := some 27) (v := ?_) (a' := ?_) #[true, true, true, true, true, true, true, true, true, false, false, false] rfl rfl (by kernel_rfl) (fun _ _ _ h => h) (Or.inl ⟨by rfl, ?_⟩) ?_ ?_
  rotate_left
  ·
   intro w'
   go_simp
   with_reducible rfl
  rotate_left
  ·
   simp only [Act.put, List.setIfInBounds_toArray, List.set_cons_zero, List.set_cons_succ, i64_w, i32_w]
   rfl
  refine take_ (i := 9) (N := some 28) (v := ?_) (a' := ?_) #[true, true, true, true, true, true, true, true, true, true, false, false] rfl rfl (by kernel_rfl) (fun _ _ _ h => h) (Or.inl ⟨by rfl, ?_⟩) hHeld ?_ ?_
  rotate_left
  ·
   rintro w' ⟨s0, s1, s2, s3, s4⟩
   go_simp
   with_reducible rfl
  rotate_left
  ·
   simp only [Act.put, List.setIfInBounds_toArray, List.set_cons_zero, List.set_cons_succ, i64_w, i32_w]
   rfl
  refine one_ (i := 10) (N := some 7) #[true, true, true, true, true, true, true, true, true, true, true, false] rfl rfl (by kernel_rfl) (by decide) (fun K hK => ?_)
  refine box_step ?hg (N := 7) ?hd (cs := #[.int .u8 0, .string (⟨#[]⟩ : ByteArray), .int .i64 0]) (t := 61) ?hr ?_; (case hd => rfl); (case hg => rfl); (case hr => exact qbd1)
  intro q hq w2 hbox hb
  have HP2 := Aside0.mk (HP1.out.below hb)
  have BQ := Aside0.mk hbox
  have GQ := Aside0.mk (show w0.heap.size ≤ q by rw [hq]; exact below_size HP1.out.bel)
  have NG := Aside0.mk (show g ≠ q by rw [hq]; exact Nat.ne_of_lt HP1.out.lt)
  have NB := Aside0.mk (show b ≠ q by rw [hq]; exact Nat.ne_of_lt (blk_lt HP1.out.x))
  clear hq hbox
  refine hK.out _ _ ⟨((hb.cell (World.block_lt_of_cell? _ _ hHeld.1)).trans hHeld.1), ((hb.cell (World.block_lt_of_cell? _ _ hHeld.2.1)).trans hHeld.2.1), ((hb.cell (World.block_lt_of_cell? _ _ hHeld.2.2.1)).trans hHeld.2.2.1), ((hb.cell (World.block_lt_of_cell? _ _ hHeld.2.2.2.1)).trans hHeld.2.2.2.1), ((hb.cell (World.block_lt_of_cell? _ _ hHeld.2.2.2.2)).trans hHeld.2.2.2.2)⟩ (fun hHeld => ?_)
  clear hK K
  refine norm_ (a' := ?_) ?_ ?_
  rotate_left
  ·
   show Act.put _ (some 7) _ = _
   simp only [Act.put, List.setIfInBounds_toArray, List.set_cons_zero, List.set_cons_succ, i64_w, i32_w]
   rfl
  refine last_ (i := 11) (N := none) #[true, true, true, true, true, true, true, true, true, true, true, true] rfl rfl (by kernel_rfl) (by decide) (fun K hK => ?_)
  have z0 := bc0 BQ.out
  have z1 := bc1 BQ.out
  have z2 := bc2 BQ.out
  have y0 := blk_frozen BQ.out 0
  have y1 := blk_frozen BQ.out 1
  have y2 := blk_frozen BQ.out 2
  refine skip_ (w1 := ?_) (by rfl) rfl ?_ ?_
  rotate_left
  ·
   go_simp
   rfl
  refine hK.out _ _ ?_
  clear hK K
  refine done_ (by kernel_rfl) ?_
  have HP3 := Aside0.mk (((HP2.out.other NG.out NB.out GQ.out 0 (.int .u8 t.f0)).other NG.out NB.out GQ.out 1 (.string t.f1)).other NG.out NB.out GQ.out 2 (.int .i64 t.f2))
  have BQ3 := Aside0.mk (blk_put (cs' := #[.int .u8 t.f0, .string t.f1, .int .i64 t.f2]) (blk_put (cs' := #[.int .u8 t.f0, .string t.f1, .int .i64 0]) (blk_put (cs' := #[.int .u8 t.f0, .string (⟨#[]⟩ : ByteArray), .int .i64 0]) BQ.out 0 (.int .u8 t.f0) rfl) 1 (.string t.f1) rfl) 2 (.int .i64 t.f2) rfl)
  obtain ⟨w3, hw3⟩ : ∃ V, V = ((w2.setCell ⟨q, 0, none⟩ (.int .u8 t.f0)).setCell ⟨q, 1, none⟩ (.string t.f1)).setCell ⟨q, 2, none⟩ (.int .i64 t.f2) := ⟨_, rfl⟩
  rw [← hw3] at HP3 BQ3 ⊢
  clear hw3 z0 z1 z2 y0 y1 y2 hcz0 hcz1 hfz1 hx0 hx1 hx2 n0 n1 n2 n3 n4 HP1 HP2 BQ
  have ng : g ≠ q := NG.out
  have nb : b ≠ q := NB.out
  have gb : g ≠ b := HP3.out.ne
  have ng' := ng.symm
  have nb' := nb.symm
  have gb' := gb.symm
  obtain ⟨A3, c3, HG3, hge3, HS3⟩ := HP3.out.i
  have hcz1 := cellS134_1 HG3
  have hfz1 := blk_frozen HG3 1
  clear HG3 hge3 HS3
  have zq0 := bc0 BQ3.out
  have zq1 := bc1 BQ3.out
  have zq2 := bc2 BQ3.out
  have yq2 := blk_frozen BQ3.out 2
  have zb0 := bc0 HP3.out.x
  have zb1 := bc1 HP3.out.x
  have zb2 := bc2 HP3.out.x
  have yb0 := blk_frozen HP3.out.x 0
  have yb1 := blk_frozen HP3.out.x 1
  have yb2 := blk_frozen HP3.out.x 2
  have tk : ∀ n : Nat, n < 256 → (((ZT.toTok t).k = n) ↔ t.f0 = n) := by
   intro n _
   simp only [ZT.toTok]
   have := TF.out
   omega
  by_cases k2 : t.f0 = 2
  ·
   have j2 : (t.f0 == 2) = true := beq_iff_eq.2 k2
   have T2 := TA.out
   unfold Ex.termT at T2
   rw [if_pos ((tk 2 (by decide)).2 k2)] at T2
   have TT := Aside0.mk T2
   clear T2 tk TA k2
   cases minus with
   | false =>
    go_wp2
    have HP4 : Aside0 (PS w0 (w3.setCell ⟨g, 1, none⟩ (.int .i64 ((a : Int) + 1))) g b l0 (a + 1) x) := ⟨HP3.out.seti (a + 1)⟩
    have zq4 : (w3.setCell ⟨g, 1, none⟩ (.int .i64 ((a : Int) + 1))).cell? ⟨q, 2, none⟩ = some (.int .i64 t.f2) := (blk_cell (blk_far (p := ⟨g, 1, none⟩) BQ3.out ng' (.int .i64 ((a : Int) + 1))) 2).trans rfl
    obtain ⟨w4, hw4⟩ : ∃ V, V = (w3.setCell ⟨g, 1, none⟩ (.int .i64 ((a : Int) + 1))) := ⟨_, rfl⟩
    rw [← hw4] at HP4 zq4 ⊢
    have zb4 := bc2 HP4.out.x
    have yb4 := blk_frozen HP4.out.x 2
    clear hw4 HP3 BQ3 zq0 zq1 zq2 zb0 zb1 zb2 yb0 yb1 yb2 yq2 hcz1 hfz1 hHeld
    refine start_ (n := 10) (S := fun w' => w'.cell? ⟨b, 2, none⟩ = some (.int .i64 x.n) ∧ w'.cell? ⟨q, 2, none⟩ = some (.int .i64 t.f2)) (ds := [9]) #[false, false, false, false, false, false, false, false, false, false] (by kernel_rfl) rfl rfl ⟨zb4, zq4⟩ (fun hHeld => ?_)
    refine pure_ (i := 0) (N := some 45) (v := ?_) (a' := ?_) #[true, false, false, false, false, false, false, false, false, false] rfl rfl (by kernel_rfl) (fun _ _ _ h => h) (Or.inl ⟨by rfl, ?_⟩) ?_ ?_
    rotate_left
    ·
     intro w'
     go_simp
     with_reducible rfl
    rotate_left
    ·
     simp only [Act.put, List.setIfInBounds_toArray, List.set_cons_zero, List.set_cons_succ, i64_w, i32_w]
     rfl
    refine pure_ (i := 1) (N := some 46) (v := ?_) (a' := ?_) #[true, true, false, false, false, false, false, false, false, false] rfl rfl (by kernel_rfl) (fun _ _ _ h => h) (Or.inl ⟨by rfl, ?_⟩) ?_ ?_
    rotate_left
    ·
     intro w'
     go_simp
     with_reducible rfl
    rotate_left
    ·
     simp only [Act.put, List.setIfInBounds_toArray, List.set_cons_zero, List.set_cons_succ, i64_w, i32_w]
     rfl
    refine pure_ (i := 2) (N := some 47) (v := ?_) (a' := ?_) #[true, true, true, false, false, false, false, false, false, false] rfl rfl (by kernel_rfl) (fun _ _ _ h => h) (Or.inl ⟨by rfl, ?_⟩) ?_ ?_
    rotate_left
    ·
     intro w'
     go_simp
     with_reducible rfl
    rotate_left
    ·
     simp only [Act.put, List.setIfInBounds_toArray, List.set_cons_zero, List.set_cons_succ, i64_w, i32_w]
     rfl
    refine pure_ (i := 4) (N := some 49) (v := ?_) (a' := ?_) #[true, true, true, false, true, false, false, false, false, false] rfl rfl (by kernel_rfl) (fun _ _ _ h => h) (Or.inl ⟨by rfl, ?_⟩) ?_ ?_
    rotate_left
    ·
     intro w'
     go_simp
     with_reducible rfl
    rotate_left
    ·
     simp only [Act.put, List.setIfInBounds_toArray, List.set_cons_zero, List.set_cons_succ, i64_w, i32_w]
     rfl
    refine take_ (i := 3) (N := some 48) (v := ?_) (a' := ?_) #[true, true, true, true, true, false, false, false, false, false] rfl rfl (by kernel_rfl) (fun _ _ _ h => h) (Or.inl ⟨by rfl, ?_⟩) hHeld ?_ ?_
    rotate_left
    ·
     rintro w' ⟨s0, s1⟩
     go_simp
     with_reducible rfl
    rotate_left
    ·
     simp only [Act.put, List.setIfInBounds_toArray, List.set_cons_zero, List.set_cons_succ, i64_w, i32_w]
     rfl
    refine take_ (i := 5) (N := some 50) (v := ?_) (a' := ?_) #[true, true, true, true, true, true, false, false, false, false] rfl rfl (by kernel_rfl) (fun _ _ _ h => h) (Or.inl ⟨by rfl, ?_⟩) hHeld ?_ ?_
    rotate_left
    ·
     rintro w' ⟨s0, s1⟩
     go_simp
     with_reducible rfl
    rotate_left
    ·
     simp only [Act.put, List.setIfInBounds_toArray, List.set_cons_zero, List.set_cons_succ, i64_w, i32_w]
     rfl
    refine pure_ (i := 6) (N := some 51) (v := ?_) (a' := ?_) #[true, true, true, true, true, true, true, false, false, false] rfl rfl (by kernel_rfl) (fun _ _ _ h => h) (Or.inl ⟨by rfl, ?_⟩) ?_ ?_
    rotate_left
    ·
     intro w'
     go_simp
     with_reducible rfl
    rotate_left
    ·
     simp only [Act.put, List.setIfInBounds_toArray, List.set_cons_zero, List.set_cons_succ, i64_w, i32_w]
     rfl
    refine pure_ (i := 7) (N := some 52) (v := ?_) (a' := ?_) #[true, true, true, true, true, true, true, true, false, false] rfl rfl (by kernel_rfl) (fun _ _ _ h => h) (Or.inl ⟨by rfl, ?_⟩) ?_ ?_
    rotate_left
    ·
     intro w'
     go_simp
     with_reducible rfl
    rotate_left
    ·
     simp only [Act.put, List.setIfInBounds_toArray, List.set_cons_zero, List.set_cons_succ, i64_w, i32_w]
     rfl
    refine pure_ (i := 8) (N := some 53) (v := ?_) (a' := ?_) #[true, true, true, true, true, true, true, true, true, false] rfl rfl (by kernel_rfl) (fun _ _ _ h => h) (Or.inl ⟨by rfl, ?_⟩) ?_ ?_
    rotate_left
    ·
     intro w'
     go_simp
     with_reducible rfl
    rotate_left
    ·
     simp only [Act.put, List.setIfInBounds_toArray, List.set_cons_zero, List.set_cons_succ, i64_w, i32_w]
     rfl
    refine last_ (i := 9) (N := none) #[true, true, true, true, true, true, true, true, true, true] rfl rfl (by kernel_rfl) (by decide) (fun K hK => ?_)
    refine skip_ (w1 := ?_) (by rfl) rfl ?_ ?_
    rotate_left
    ·
     go_simp
     rfl
    refine hK.out _ _ ?_
    clear hK K
    refine done_ (by kernel_rfl) ?_
    go_wp2
    go_ret
    exact .inl ⟨_, TT.out, rfl, (HP4.out.drew).setx 2 _ (by simp [xV, w64_eq, ZT.toTok])⟩
   | true =>
    go_wp2
    have HP4 : Aside0 (PS w0 ((w3.setCell ⟨g, 1, none⟩ (.int .i64 ((a : Int) + 1))).setCell ⟨q, 2, none⟩ (.int .i64 (wrap64 (-t.f2)))) g b l0 (a + 1) x) := ⟨(HP3.out.seti (a + 1)).other ng nb GQ.out 2 (.int .i64 (wrap64 (-t.f2)))⟩
    have zq4 : ((w3.setCell ⟨g, 1, none⟩ (.int .i64 ((a : Int) + 1))).setCell ⟨q, 2, none⟩ (.int .i64 (wrap64 (-t.f2)))).cell? ⟨q, 2, none⟩ = some (.int .i64 (wrap64 (-t.f2))) := (blk_cell (blk_put (cs' := #[.int .u8 t.f0, .string t.f1, .int .i64 (wrap64 (-t.f2))]) (blk_far (p := ⟨g, 1, none⟩) BQ3.out ng' (.int .i64 ((a : Int) + 1))) 2 (.int .i64 (wrap64 (-t.f2))) rfl) 2).trans rfl
    obtain ⟨w4, hw4⟩ : ∃ V, V = ((w3.setCell ⟨g, 1, none⟩ (.int .i64 ((a : Int) + 1))).setCell ⟨q, 2, none⟩ (.int .i64 (wrap64 (-t.f2)))) := ⟨_, rfl⟩
    rw [← hw4] at HP4 zq4 ⊢
    have zb4 := bc2 HP4.out.x
    have yb4 := blk_frozen HP4.out.x 2
    clear hw4 HP3 BQ3 zq0 zq1 zq2 zb0 zb1 zb2 yb0 yb1 yb2 yq2 hcz1 hfz1 hHeld
    refine start_ (n := 10) (S := fun w' => w'.cell? ⟨b, 2, none⟩ = some (.int .i64 x.n) ∧ w'.cell? ⟨q, 2, none⟩ = some (.int .i64 (wrap64 (-t.f2)))) (ds := [9]) #[false, false, false, false, false, false, false, false, false, false] (by kernel_rfl) rfl rfl ⟨zb4, zq4⟩ (fun hHeld => ?_)
    refine pure_ (i := 0) (N := some 45) (v := ?_) (a' := ?_) #[true, false, false, false, false, false, false, false, false, false] rfl rfl (by kernel_rfl) (fun _ _ _ h => h) (Or.inl ⟨by rfl, ?_⟩) ?_ ?_
    rotate_left
    ·
     intro w'
     go_simp
     with_reducible rfl
    rotate_left
    ·
     simp only [Act.put, List.setIfInBounds_toArray, List.set_cons_zero, List.set_cons_succ, i64_w, i32_w]
     rfl
    refine pure_ (i := 1) (N := some 46) (v := ?_) (a' := ?_) #[true, true, false, false, false, false, false, false, false, false] rfl rfl (by kernel_rfl) (fun _ _ _ h => h) (Or.inl ⟨by rfl, ?_⟩) ?_ ?_
    rotate_left
    ·
     intro w'
     go_simp
     with_reducible rfl
    rotate_left
    ·
     simp only [Act.put, List.setIfInBounds_toArray, List.set_cons_zero, List.set_cons_succ, i64_w, i32_w]
     rfl
    refine pure_ (i := 2) (N := some 47) (v := ?_) (a' := ?_) #[true, true, true, false, false, false, false, false, false, false] rfl rfl (by kernel_rfl) (fun _ _ _ h => h) (Or.inl ⟨by rfl, ?_⟩) ?_ ?_
    rotate_left
    ·
     intro w'
     go_simp
     with_reducible rfl
    rotate_left
    ·
     simp only [Act.put, List.setIfInBounds_toArray, List.set_cons_zero, List.set_cons_succ, i64_w, i32_w]
     rfl
    refine pure_ (i := 4) (N := some 49) (v := ?_) (a' := ?_) #[true, true, true, false, true, false, false, false, false, false] rfl rfl (by kernel_rfl) (fun _ _ _ h => h) (Or.inl ⟨by rfl, ?_⟩) ?_ ?_
    rotate_left
    ·
     intro w'
     go_simp
     with_reducible rfl
    rotate_left
    ·
     simp only [Act.put, List.setIfInBounds_toArray, List.set_cons_zero, List.set_cons_succ, i64_w, i32_w]
     rfl
    refine take_ (i := 3) (N := some 48) (v := ?_) (a' := ?_) #[true, true, true, true, true, false, false, false, false, false] rfl rfl (by kernel_rfl) (fun _ _ _ h => h) (Or.inl ⟨by rfl, ?_⟩) hHeld ?_ ?_
    rotate_left
    ·
     rintro w' ⟨s0, s1⟩
     go_simp
     with_reducible rfl
    rotate_left
    ·
     simp only [Act.put, List.setIfInBounds_toArray, List.set_cons_zero, List.set_cons_succ, i64_w, i32_w]
     rfl
    refine take_ (i := 5) (N := some 50) (v := ?_) (a' := ?_) #[true, true, true, true, true, true, false, false, false, false] rfl rfl (by kernel_rfl) (fun _ _ _ h => h) (Or.inl ⟨by rfl, ?_⟩) hHeld ?_ ?_
    rotate_left
    ·
     rintro w' ⟨s0, s1⟩
     go_simp
     with_reducible rfl
    rotate_left
    ·
     simp only [Act.put, List.setIfInBounds_toArray, List.set_cons_zero, List.set_cons_succ, i64_w, i32_w]
     rfl
    refine pure_ (i := 6) (N := some 51) (v := ?_) (a' := ?_) #[true, true, true, true, true, true, true, false, false, false] rfl rfl (by kernel_rfl) (fun _ _ _ h => h) (Or.inl ⟨by rfl, ?_⟩) ?_ ?_
    rotate_left
    ·
     intro w'
     go_simp
     with_reducible rfl
    rotate_left
    ·
     simp only [Act.put, List.setIfInBounds_toArray, List.set_cons_zero, List.set_cons_succ, i64_w, i32_w]
     rfl
    refine pure_ (i := 7) (N := some 52) (v := ?_) (a' := ?_) #[true, true, true, true, true, true, true, true, false, false] rfl rfl (by kernel_rfl) (fun _ _ _ h => h) (Or.inl ⟨by rfl, ?_⟩) ?_ ?_
    rotate_left
    ·
     intro w'
     go_simp
     with_reducible rfl
    rotate_left
    ·
     simp only [Act.put, List.setIfInBounds_toArray, List.set_cons_zero, List.set_cons_succ, i64_w, i32_w]
     rfl
    refine pure_ (i := 8) (N := some 53) (v := ?_) (a' := ?_) #[true, true, true, true, true, true, true, true, true, false] rfl rfl (by kernel_rfl) (fun _ _ _ h => h) (Or.inl ⟨by rfl, ?_⟩) ?_ ?_
    rotate_left
    ·
     intro w'
     go_simp
     with_reducible rfl
    rotate_left
    ·
     simp only [Act.put, List.setIfInBounds_toArray, List.set_cons_zero, List.set_cons_succ, i64_w, i32_w]
     rfl
    refine last_ (i := 9) (N := none) #[true, true, true, true, true, true, true, true, true, true] rfl rfl (by kernel_rfl) (by decide) (fun K hK => ?_)
    refine skip_ (w1 := ?_) (by rfl) rfl ?_ ?_
    rotate_left
    ·
     go_simp
     rfl
    refine hK.out _ _ ?_
    clear hK K
    refine done_ (by kernel_rfl) ?_
    go_wp2
    go_ret
    exact .inl ⟨_, TT.out, rfl, (HP4.out.drew).setx 2 _ (by simp [xV, w64_eq, ZT.toTok])⟩
  have j2 : (t.f0 == 2) = false := beq_eq_false_iff_ne.2 k2
  by_cases k1 : t.f0 = 1
  ·
   have j1 : (t.f0 == 1) = true := beq_iff_eq.2 k1
   have T2 := TA.out
   unfold Ex.termT at T2
   rw [if_neg (fun h => k2 ((tk 2 (by decide)).1 h)), if_pos ((tk 1 (by decide)).2 k1)] at T2
   clear tk TA k1 k2
   have HP4 : Aside0 (PS w0 (w3.setCell ⟨g, 1, none⟩ (.int .i64 ((a : Int) + 1))) g b l0 (a + 1) x) := ⟨HP3.out.seti (a + 1)⟩
   have HC := fun W1 (hb : Below (w3.setCell ⟨g, 1, none⟩ (.int .i64 ((a : Int) + 1))).heap.size (w3.setCell ⟨g, 1, none⟩ (.int .i64 ((a : Int) + 1))) W1) => word_calls t.f1 TS.out W1 (Lib.tabBelow_of_tabIs HT.out _ (below_step HP4.out.bel hb)) (HD.out.below (below_step HP4.out.bel hb))
   cases minus with
   | false =>
    by_cases hs : x.s = []
    ·
     obtain ⟨z1, z2, z3⟩ := empty_s hs
     rw [if_neg (by simp), if_neg (show ¬ x.s ≠ [] from fun h => h hs)] at T2
     cases hw : Ex.wordL t.f1.data.toList with
     | true =>
      rw [if_pos (show Ex.wordL (ZT.toTok t).t = true from hw)] at T2
      have TT := Aside0.mk T2
      rw [hw] at HC
      clear T2 hHeld
      go_wp2_with (go_at_call 119; refine (HC _ ?_).mono ?_; (case refine_1 => exact Below.refl _ _); rintro e w5 ⟨rfl, hb5⟩; have HP5 := Aside0.mk (HP4.out.below hb5); have BQ5 := Aside0.mk (blk_below (blk_far (p := ⟨g, 1, none⟩) BQ3.out ng' (.int .i64 ((a : Int) + 1))) hb5); have vq1 := bc1 BQ5.out; have vb0 := bc0 HP5.out.x; have ub0 := blk_frozen HP5.out.x 0; clear hb5)
      go_ret
      exact .inl ⟨_, TT.out, rfl, HP5.out.setx 0 _ (by simp [xV, ZT.toTok])⟩
     | false =>
      rw [if_neg (show ¬ Ex.wordL (ZT.toTok t).t = true by rw [show Ex.wordL (ZT.toTok t).t = false from hw]; simp)] at T2
      have TT := Aside0.mk T2
      rw [hw] at HC
      clear T2 hHeld
      go_wp2_with (go_at_call 119; refine (HC _ ?_).mono ?_; (case refine_1 => exact Below.refl _ _); rintro e w5 ⟨rfl, hb5⟩; have HP5 := Aside0.mk (HP4.out.below hb5); have BQ5 := Aside0.mk (blk_below (blk_far (p := ⟨g, 1, none⟩) BQ3.out ng' (.int .i64 ((a : Int) + 1))) hb5); have vq1 := bc1 BQ5.out; have vb0 := bc0 HP5.out.x; have ub0 := blk_frozen HP5.out.x 0; clear hb5)
      go_ret
      exact .inr ⟨TT.out, rfl, a + 1, HP5.out⟩
    ·
     obtain ⟨z1, z2, z3⟩ := nonempty_s hs
     rw [if_neg (by simp), if_pos hs] at T2
     have TT := Aside0.mk T2
     clear T2 hHeld
     go_wp2
     go_ret
     exact .inr ⟨TT.out, rfl, a + 1, HP4.out⟩
   | true =>
    by_cases hs : x.l = []
    ·
     obtain ⟨z1, z2, z3⟩ := empty_s hs
     rw [if_pos rfl, if_neg (show ¬ x.l ≠ [] from fun h => h hs)] at T2
     cases hw : Ex.wordL t.f1.data.toList with
     | true =>
      rw [if_pos (show Ex.wordL (ZT.toTok t).t = true from hw)] at T2
      have TT := Aside0.mk T2
      rw [hw] at HC
      clear T2 hHeld
      go_wp2_with (go_at_call 119; refine (HC _ ?_).mono ?_; (case refine_1 => exact Below.refl _ _); rintro e w5 ⟨rfl, hb5⟩; have HP5 := Aside0.mk (HP4.out.below hb5); have BQ5 := Aside0.mk (blk_below (blk_far (p := ⟨g, 1, none⟩) BQ3.out ng' (.int .i64 ((a : Int) + 1))) hb5); have vq1 := bc1 BQ5.out; have vb1 := bc1 HP5.out.x; have ub1 := blk_frozen HP5.out.x 1; clear hb5)
      go_ret
      exact .inl ⟨_, TT.out, rfl, HP5.out.setx 1 _ (by simp [xV, ZT.toTok])⟩
     | false =>
      rw [if_neg (show ¬ Ex.wordL (ZT.toTok t).t = true by rw [show Ex.wordL (ZT.toTok t).t = false from hw]; simp)] at T2
      have TT := Aside0.mk T2
      rw [hw] at HC
      clear T2 hHeld
      go_wp2_with (go_at_call 119; refine (HC _ ?_).mono ?_; (case refine_1 => exact Below.refl _ _); rintro e w5 ⟨rfl, hb5⟩; have HP5 := Aside0.mk (HP4.out.below hb5); have BQ5 := Aside0.mk (blk_below (blk_far (p := ⟨g, 1, none⟩) BQ3.out ng' (.int .i64 ((a : Int) + 1))) hb5); have vq1 := bc1 BQ5.out; have vb1 := bc1 HP5.out.x; have ub1 := blk_frozen HP5.out.x 1; clear hb5)
      go_ret
      exact .inr ⟨TT.out, rfl, a + 1, HP5.out⟩
    ·
     obtain ⟨z1, z2, z3⟩ := nonempty_s hs
     rw [if_pos rfl, if_pos hs] at T2
     have TT := Aside0.mk T2
     clear T2 hHeld
     go_wp2
     go_ret
     exact .inr ⟨TT.out, rfl, a + 1, HP4.out⟩
  ·
   have j1 : (t.f0 == 1) = false := beq_eq_false_iff_ne.2 k1
   have T2 := TA.out
   unfold Ex.termT at T2
   rw [if_neg (fun h => k2 ((tk 2 (by decide)).1 h)), if_neg (fun h => k1 ((tk 1 (by decide)).1 h))] at T2
   have TT := Aside0.mk T2
   clear T2 tk TA k2 k1
   go_wp2
   go_ret
   exact .inr ⟨TT.out, rfl, a + 1, HP3.out.seti (a + 1)⟩
 ·
  have d0 : decide ((l0.length : Int) ≤ (a : Int)) = true := decide_eq_true (by omega)
  have TA : termAt l0 a x minus = none := by
   unfold termAt
   rw [List.getElem?_eq_none qbd2]
  go_enter Tryz.func131, Tryz.ntmps131
  go_wp2
  repeat (go_quiet (fail); try go_wp2)
  go_ret
  exact .inr ⟨TA, rfl, a, HP.out.below (by repeat (first | exact Below.refl _ _ | apply pw_below_drewN))⟩
theorem check_one (x : S61) (ok : 0 ≤ x.f0 ∧ x.f1.size ≤ 1000000 ∧ Lex.numOk (ZT.toTok x)) : expr_Parse_1.f 2000000 x.f0 x.f1 x.f2 = some (!Lex.mayL (ZT.toTok x)) := by
 unfold expr_Parse_1.f lex_Check.f
 rw [ZT.text_f x ok.1 (by have := ok.2.1; omega) ok.2.2 2000000 (by have := ok.2.1; omega)]
 simp only [Option.bind_some]
 have hm : (Lex.textL (ZT.toTok x)).2 = Lex.mayL (ZT.toTok x) := rfl
 rw [hm]
 cases Lex.mayL (ZT.toTok x) <;> rfl
theorem not_all {l : List S61} {i : Nat} (h : i < l.length) (hb : Lex.mayL (ZT.toTok (rd_T61 l (i : Int))) = false) : (l.map ZT.toTok).all Lex.mayL = false := by
 rw [rd41 l i h] at hb
 rw [List.all_eq_false]
 exact ⟨ZT.toTok l[i], List.mem_map.2 ⟨_, List.getElem_mem h, rfl⟩, by simp [hb]⟩
set_option maxHeartbeats 4000000 in
set_option maxRecDepth 100000 in
theorem index_calls (A0 : Option Addr) (c0 : Nat) (l0 : List S61) (w : World) (hr0 : Kd.C k61 w A0 l0.length l0) (ok : okT l0) (hT : Lib.TabIs Tryz.prog w "internal/strconv.uint64pow10" .u64 Lib.pow10Tab) (hD : LexW.LexD w) :
  Calls Tryz.prog 130 #[.slice A0 l0.length c0, .func (.func 110) #[] #[]] w fun e w' => (∃ i : Int, e = .returned (.int .i64 i) ∧ decide (0 ≤ i) = !(l0.map ZT.toTok).all Lex.mayL) ∧ Below w.heap.size w w' := by
 have HR0 := Aside0.mk hr0
 have OK := Aside0.mk ok
 have HT := Aside0.mk hT
 have HD := Aside0.mk hD
 have hl := ok.1
 clear hr0 ok hT hD
 go_enter Tryz.func130, Tryz.ntmps130
 go_wp2
 go_loopw [8] (fun v8 wx => ∃ i : Nat, v8 = .int .i64 (i : Int) ∧ i ≤ l0.length ∧ Aside0 (∀ x ∈ l0.take i, Lex.mayL (ZT.toTok x) = true) ∧ Aside0 (Below w.heap.size w wx)) (fun v8 _ => match v8 with | .int _ i => l0.length - i.toNat | _ => 0)
 case atStart => exact ⟨0, rfl, Nat.zero_le _, ⟨by simp⟩, ⟨Below.refl _ _⟩⟩
 case round =>
  obtain ⟨i, rfl, hi, HA, HB⟩ := hrel
  by_cases hlt : i < l0.length
  ·
   have p0 : (0 : Int) ≤ (i : Int) := by omega
   have q0 : (i : Int) < (l0.length : Int) := by omega
   obtain ⟨ad, e0, hx0, hx1, hx2⟩ := at_T61 HR0.out (i : Int) p0 q0
   cases e0
   replace hx0 := pw_cell_below HB.out hx0
   replace hx1 := pw_cell_below HB.out hx1
   replace hx2 := pw_cell_below HB.out hx2
   simp only [Int.toNat_natCast] at hx0 hx1 hx2
   have hrd := rd41 l0 i hlt
   have hc := check_one (rd_T61 l0 (i : Int)) (by rw [hrd]; exact OK.out.2 _ (List.getElem_mem hlt))
   have NA := Aside0.mk (not_all hlt)
   have TK := Aside0.mk (List.take_succ_eq_append_getElem hlt)
   rw [← hrd] at TK
   clear hrd
   generalize rd_T61 l0 (i : Int) = t at *
   have d0 : decide ((i : Int) < (l0.length : Int)) = true := decide_eq_true q0
   have hb1 : wrap64 ((i : Int) + 1) = ((i + 1 : Nat) : Int) := by unfold wrap64; omega
   have HC := Aside0.mk hc
   clear hc
   cases hm : Lex.mayL (ZT.toTok t) with
   | true =>
    rw [hm] at HC
    go_wp2_with (go_at_call 110; refine (expr_Parse_1.calls 2000000 t.f0 t.f1 t.f2 _ _ (Lib.tabBelow_of_tabIs HT.out _ ?_) (HD.out.below ?_) HC.out).mono ?_; (case refine_1 => exact HB.out); (case refine_2 => exact HB.out); rintro e w1 ⟨rfl, hb⟩; have HB2 := Aside0.mk (below_step HB.out hb); clear hb)
    go_roundw
    case rel => exact ⟨i + 1, rfl, by omega, ⟨by intro x hx; rw [TK.out, List.mem_append] at hx; rcases hx with hx | hx; exact HA.out x hx; simp at hx; rw [hx]; exact hm⟩, HB2⟩
    case measure => simp only; omega
   | false =>
    rw [hm] at HC
    go_wp2_with (go_at_call 110; refine (expr_Parse_1.calls 2000000 t.f0 t.f1 t.f2 _ _ (Lib.tabBelow_of_tabIs HT.out _ ?_) (HD.out.below ?_) HC.out).mono ?_; (case refine_1 => exact HB.out); (case refine_2 => exact HB.out); rintro e w1 ⟨rfl, hb⟩; have HB2 := Aside0.mk (below_step HB.out hb); clear hb)
    go_ret
    exact ⟨⟨_, rfl, by rw [NA.out hm]; exact decide_eq_true (by omega)⟩, HB2.out⟩
  ·
   obtain rfl : i = l0.length := by omega
   have d0 : decide ((l0.length : Int) < (l0.length : Int)) = false := decide_eq_false (by omega)
   have hall : (l0.map ZT.toTok).all Lex.mayL = true := by
    rw [List.all_eq_true]
    intro y hy
    obtain ⟨x, hx, rfl⟩ := List.mem_map.1 hy
    exact HA.out x (by rw [List.take_length]; exact hx)
   go_wp2
   go_ret
   exact ⟨⟨_, rfl, by rw [hall]; rfl⟩, HB.out⟩
theorem contains_calls (A0 : Option Addr) (c0 : Nat) (l0 : List S61) (w : World) (hr0 : Kd.C k61 w A0 l0.length l0) (ok : okT l0) (hT : Lib.TabIs Tryz.prog w "internal/strconv.uint64pow10" .u64 Lib.pow10Tab) (hD : LexW.LexD w) :
  Calls Tryz.prog 109 #[.slice A0 l0.length c0, .func (.func 110) #[] #[]] w fun e w' => e = .returned (.bool (!(l0.map ZT.toTok).all Lex.mayL)) ∧ Below w.heap.size w w' := by
 have cI := index_calls A0 c0 l0 w hr0 ok hT hD
 clear hr0 ok hT hD
 go_enter Tryz.func109, Tryz.ntmps109
 go_wp2_with (go_at_call 130; refine cI.mono ?_; rintro e w1 ⟨⟨i, rfl, hi⟩, hb⟩; have HB2 := Aside0.mk hb; clear hb)
 go_ret
 exact ⟨by rw [List.all_map]; rfl, HB2.out⟩
def markAt (l0 : List S61) (a : Nat) (c : UInt8) : Bool := match (l0.map ZT.toTok)[a]? with
 | none => false
 | some t => decide (t = Ex.mk c)
def startsAt (l0 : List S61) (a : Nat) : Bool := match (l0.map ZT.toTok)[a]? with
 | none => false
 | some t => Ex.startsT t
theorem tok_mark (t : S61) (h : 0 ≤ t.f0) (c : UInt8) : (t.f0 == 4 && (t.f1.toList == (⟨#[c]⟩ : ByteArray).toList && t.f2 == 0)) = decide (ZT.toTok t = Ex.mk c) := by
 have h1 : (⟨#[c]⟩ : ByteArray).toList = [c] := by rw [ByteArray.toList_eq]
 rw [h1, ByteArray.toList_eq]
 have : (ZT.toTok t = Ex.mk c) ↔ (t.f0 = 4 ∧ t.f1.data.toList = [c] ∧ t.f2 = 0) := by
  simp only [ZT.toTok, Ex.mk, Lex.Tok.mk.injEq]
  constructor
  ·
   rintro ⟨h1, h2, h3⟩
   exact ⟨by omega, h2, h3⟩
  ·
   rintro ⟨h1, h2, h3⟩
   exact ⟨by omega, h2, h3⟩
 rw [Bool.eq_iff_iff]
 simp only [Bool.and_eq_true, beq_iff_eq, decide_eq_true_eq]
 exact this.symm
theorem mark_f (l0 : List S61) (ok : okT l0) (a : Nat) (c : UInt8) : expr_reader_mark.f l0 (a : Int) ⟨#[c]⟩ = some (markAt l0 a c, ((if markAt l0 a c = true then a + 1 else a : Nat) : Int)) := by
 have hl := ok.1
 obtain ⟨m, hm⟩ : ∃ m, markAt l0 a c = m := ⟨_, rfl⟩
 rw [hm]
 unfold expr_reader_mark.f
 unfold markAt at hm
 by_cases h : a < l0.length
 ·
  have hk := tok_mark (rd_T61 l0 (a : Int)) (by rw [rd41 l0 a h]; exact (ok.2 _ (List.getElem_mem h)).1) c
  rw [List.getElem?_map, List.getElem?_eq_getElem h, ← rd41 l0 a h] at hm
  simp only [Option.map_some] at hm
  rw [hm] at hk
  rw [if_pos (by omega), if_pos (by omega), hk]
  cases m with
  | true =>
   rw [if_pos rfl, if_pos rfl]
   congr 2
   unfold wrap64
   omega
  | false => rw [if_neg (by simp), if_neg (by simp)]
 ·
  rw [List.getElem?_eq_none qbd2] at hm
  simp only at hm
  subst hm
  rw [if_neg (by omega)]
  rfl
theorem mark_calls (w0 W : World) (g b : Nat) (l0 : List S61) (a : Nat) (x : Ex.X) (c : UInt8) (ok : okT l0) (h : PS w0 W g b l0 a x) :
  Calls Tryz.prog 112 #[.pointer (some ⟨g, 0, none⟩), .string ⟨#[c]⟩] W fun e W' => e = .returned (.bool (markAt l0 a c)) ∧ PS w0 W' g b l0 (if markAt l0 a c = true then a + 1 else a) x :=
 (expr_reader_mark.calls g l0 (a : Int) ⟨#[c]⟩ _ _ w0 W h.i h.bel (mark_f l0 ok a c)).mono fun e W' ⟨he, hi, hb, hk⟩ => ⟨he, hi, hk.blk h.x h.ne.symm (by simp), h.ge, hb⟩
set_option maxHeartbeats 4000000 in
set_option maxRecDepth 100000 in
theorem starts_calls (w0 W : World) (g b : Nat) (l0 : List S61) (a j : Nat) (i : Int) (x : Ex.X) (hi : i = (j : Int)) (ok : okT l0) (hT : Lib.TabIs Tryz.prog w0 "internal/strconv.uint64pow10" .u64 Lib.pow10Tab) (hD : LexW.LexD w0) (h : PS w0 W g b l0 a x) :
  Calls Tryz.prog 132 #[.pointer (some ⟨g, 0, none⟩), .int .i64 i] W fun e W' => e = .returned (.bool (startsAt l0 j)) ∧ PS w0 W' g b l0 a x := by
 subst hi
 have HP := Aside0.mk h
 have HT := Aside0.mk hT
 have HD := Aside0.mk hD
 obtain ⟨A, c, HG, hge, HS⟩ := h.i
 have hcz0 := cellS134_0 HG
 clear HG hge h hT hD
 by_cases hlt : j < l0.length
 ·
  have p0 : (0 : Int) ≤ (j : Int) := by omega
  have q0 : (j : Int) < (l0.length : Int) := by omega
  obtain ⟨ad, e0, hx0, hx1, hx2⟩ := at_T61 HS (j : Int) p0 q0
  cases e0
  replace hx0 := pw_cell_below HP.out.bel hx0
  replace hx1 := pw_cell_below HP.out.bel hx1
  simp only [Int.toNat_natCast] at hx0 hx1
  clear hx2
  have d0 : decide ((j : Int) < (l0.length : Int)) = true := decide_eq_true q0
  have TA := Aside0.mk (show startsAt l0 j = Ex.startsT (ZT.toTok (rd_T61 l0 (j : Int))) by unfold startsAt; rw [List.getElem?_map, List.getElem?_eq_getElem hlt, rd41 l0 j hlt]; rfl)
  have TF := (ok.2 _ (List.getElem_mem hlt)).1
  have TS := (ok.2 _ (List.getElem_mem hlt)).2.1
  rw [← rd41 l0 j hlt] at TF TS
  clear ok
  generalize rd_T61 l0 (j : Int) = t at *
  have tk : ∀ n : Nat, n < 256 → (((ZT.toTok t).k = n) ↔ t.f0 = n) := by
   intro n _
   simp only [ZT.toTok]
   omega
  have HC := fun W1 (hb : Below W.heap.size W W1) => word_calls t.f1 TS W1 (Lib.tabBelow_of_tabIs HT.out _ (below_step HP.out.bel hb)) (HD.out.below (below_step HP.out.bel hb))
  by_cases k2 : t.f0 = 2
  ·
   have j2 : (t.f0 == 2) = true := beq_iff_eq.2 k2
   have T2 := TA.out
   unfold Ex.startsT at T2
   rw [decide_eq_true ((tk 2 (by decide)).2 k2), Bool.true_or] at T2
   rw [T2]
   clear T2 TA tk k2
   go_enter Tryz.func132, Tryz.ntmps132
   go_wp2
   go_ret
   exact ⟨rfl, HP.out⟩
  have j2 : (t.f0 == 2) = false := beq_eq_false_iff_ne.2 k2
  by_cases k1 : t.f0 = 1
  ·
   have j1 : (t.f0 == 1) = true := beq_iff_eq.2 k1
   have T2 := TA.out
   unfold Ex.startsT at T2
   rw [decide_eq_false (fun h => k2 ((tk 2 (by decide)).1 h)), decide_eq_true ((tk 1 (by decide)).2 k1), Bool.false_or, Bool.true_and] at T2
   rw [T2, show (ZT.toTok t).t = t.f1.data.toList from rfl]
   clear T2 TA tk k1 k2
   go_enter Tryz.func132, Tryz.ntmps132
   go_wp2_with (go_at_call 119; refine (HC _ ?_).mono ?_; (case refine_1 => exact Below.refl _ _); rintro e w5 ⟨rfl, hb5⟩; have HP5 := Aside0.mk (HP.out.below hb5); clear hb5)
   go_ret
   exact ⟨rfl, HP5.out⟩
  ·
   have j1 : (t.f0 == 1) = false := beq_eq_false_iff_ne.2 k1
   have T2 := TA.out
   unfold Ex.startsT at T2
   rw [decide_eq_false (fun h => k2 ((tk 2 (by decide)).1 h)), decide_eq_false (fun h => k1 ((tk 1 (by decide)).1 h)), Bool.false_or, Bool.false_and] at T2
   rw [T2]
   clear T2 TA tk k1 k2
   go_enter Tryz.func132, Tryz.ntmps132
   go_wp2
   go_ret
   exact ⟨rfl, HP.out⟩
 ·
  have d0 : decide ((j : Int) < (l0.length : Int)) = false := decide_eq_false (by omega)
  have TA : startsAt l0 j = false := by
   unfold startsAt
   rw [List.getElem?_eq_none qbd2]
  rw [TA]
  go_enter Tryz.func132, Tryz.ntmps132
  go_wp2
  go_ret
  exact ⟨rfl, HP.out⟩
theorem drop_cons (l0 : List S61) (a : Nat) (h : a < l0.length) : (l0.map ZT.toTok).drop a = ZT.toTok l0[a] :: (l0.map ZT.toTok).drop (a + 1) := by
 rw [List.drop_eq_getElem_cons (by rw [List.length_map]; exact h), List.getElem_map]
theorem drop_none (l0 : List S61) (a : Nat) (h : ¬ a < l0.length) : (l0.map ZT.toTok).drop a = [] := List.drop_eq_nil_of_le qbd2
theorem at_some (l0 : List S61) (a : Nat) (h : a < l0.length) : (l0.map ZT.toTok)[a]? = some (ZT.toTok l0[a]) := by rw [List.getElem?_map, List.getElem?_eq_getElem h]; rfl
theorem at_none (l0 : List S61) (a : Nat) (h : ¬ a < l0.length) : (l0.map ZT.toTok)[a]? = none := List.getElem?_eq_none qbd2
theorem loop_step (l0 : List S61) (a : Nat) (y : Ex.X) :
    Ex.loopR ((l0.map ZT.toTok).drop a) y = if startsAt l0 (a + 1) = true then
      (if markAt l0 a 43 = true then (match termAt l0 (a + 1) y false with | none => none | some z => Ex.loopR ((l0.map ZT.toTok).drop (a + 2)) z)
       else if markAt l0 a 45 = true then (match termAt l0 (a + 1) y true with | none => none | some z => Ex.loopR ((l0.map ZT.toTok).drop (a + 2)) z)
       else some ((l0.map ZT.toTok).drop a, y))
      else some ((l0.map ZT.toTok).drop a, y) := by
  by_cases h1 : a + 1 < l0.length
  · unfold startsAt markAt termAt
    rw [at_some l0 (a + 1) h1, at_some l0 a (by omega), drop_cons l0 a (by omega), drop_cons l0 (a + 1) h1]
    simp only [Ex.loopR, decide_eq_true_eq]
    rfl
  · have hs : startsAt l0 (a + 1) = false := by
      unfold startsAt
      rw [at_none l0 _ h1]
    rw [hs, if_neg (by simp)]
    by_cases h0 : a < l0.length
    · rw [drop_cons l0 a h0, drop_none l0 (a + 1) h1]
      rfl
    · rw [drop_none l0 a h0]
      rfl
def finR (r : Option (List Lex.Tok × Ex.X)) : Option (List Lex.Tok × Ex.X) := match r with
 | none => none
 | some (r3, z) => if z.s ≠ [] ∨ z.l = [] then some (r3, z) else none
theorem sum_step (l0 : List S61) (a : Nat) (x : Ex.X) : Ex.sumR ((l0.map ZT.toTok).drop a) x =
  (match termAt l0 (if markAt l0 a 45 = true then a + 1 else if markAt l0 a 43 = true then a + 1 else a) x (markAt l0 a 45) with
   | none => none
   | some y => finR (Ex.loopR ((l0.map ZT.toTok).drop ((if markAt l0 a 45 = true then a + 1 else if markAt l0 a 43 = true then a + 1 else a) + 1)) y)) := by
 have hf : ∀ c, Ex.first ((l0.map ZT.toTok).drop a) c = markAt l0 a c := by
  intro c
  unfold markAt
  by_cases h : a < l0.length
  ·
   rw [at_some l0 a h, drop_cons l0 a h]
   rfl
  ·
   rw [at_none l0 a h, drop_none l0 a h]
   rfl
 have key : ∀ (j : Nat) (m : Bool), (match (l0.map ZT.toTok).drop j with
   | [] => none
   | t :: r2 => match Ex.termT t x m with
    | none => none
    | some y => match Ex.loopR r2 y with
     | none => none
     | some (r3, z) => if z.s ≠ [] ∨ z.l = [] then some (r3, z) else none) = (match termAt l0 j x m with
   | none => none
   | some y => finR (Ex.loopR ((l0.map ZT.toTok).drop (j + 1)) y)) := by
  intro j m
  unfold termAt finR
  by_cases h : j < l0.length
  ·
   rw [at_some l0 j h, drop_cons l0 j h]
  ·
   rw [at_none l0 j h, drop_none l0 j h]
 unfold Ex.sumR Ex.tailOf
 rw [hf, hf]
 cases h45 : markAt l0 a 45 with
 | true =>
  simp only [Bool.true_or, if_true, List.tail_drop]
  exact key (a + 1) true
 | false =>
  cases h43 : markAt l0 a 43 with
  | true =>
   simp only [Bool.false_or, Bool.false_eq_true, if_false, if_true, List.tail_drop]
   exact key (a + 1) false
  | false =>
   simp only [Bool.false_or, Bool.false_eq_true, if_false, if_true, List.tail_drop]
   exact key a false
def SumPost (w0 : World) (g b : Nat) (l0 : List S61) (r : Option (List Lex.Tok × Ex.X)) (e : Ending) (W' : World) : Prop :=
 (∃ a' y, a' ≤ l0.length ∧ r = some ((l0.map ZT.toTok).drop a', y) ∧ e = .returned (.bool true) ∧ PS w0 W' g b l0 a' y) ∨ (r = none ∧ e = .returned (.bool false) ∧ ∃ a' y, PS w0 W' g b l0 a' y)
theorem term_lt {l0 : List S61} {a : Nat} {x y : Ex.X} {m : Bool} (h : termAt l0 a x m = some y) : a < l0.length := by
 by_cases hlt : a < l0.length
 ·
  exact hlt
 ·
  unfold termAt at h
  rw [at_none l0 a hlt] at h
  cases h
theorem start_lt {l0 : List S61} {a : Nat} (h : startsAt l0 a = true) : a < l0.length := by
 by_cases hlt : a < l0.length
 ·
  exact hlt
 ·
  unfold startsAt at h
  rw [at_none l0 a hlt] at h
  cases h
theorem cells_of {w0 W : World} {g b a : Nat} {l0 : List S61} {x : Ex.X} (h : PS w0 W g b l0 a x) : W.cell? ⟨b, 0, none⟩ = some (.string ⟨x.s.toArray⟩) ∧ W.cell? ⟨b, 1, none⟩ = some (.string ⟨x.l.toArray⟩) :=
 ⟨(blk_cell h.x 0).trans rfl, (blk_cell h.x 1).trans rfl⟩
theorem mark_to (w0 W : World) (g b : Nat) (l0 : List S61) (a : Nat) (x : Ex.X) (c : UInt8) (m : Bool) (ok : okT l0) (h : PS w0 W g b l0 a x) (hm : markAt l0 a c = m) :
  Calls Tryz.prog 112 #[.pointer (some ⟨g, 0, none⟩), .string ⟨#[c]⟩] W fun e W' => e = .returned (.bool m) ∧ PS w0 W' g b l0 (if m = true then a + 1 else a) x := by
 subst hm
 exact mark_calls w0 W g b l0 a x c ok h
theorem starts_to (w0 W : World) (g b : Nat) (l0 : List S61) (a j : Nat) (i : Int) (x : Ex.X) (s : Bool) (hi : i = (j : Int)) (ok : okT l0) (hT : Lib.TabIs Tryz.prog w0 "internal/strconv.uint64pow10" .u64 Lib.pow10Tab) (hD : LexW.LexD w0) (h : PS w0 W g b l0 a x) (hs : startsAt l0 j = s) :
  Calls Tryz.prog 132 #[.pointer (some ⟨g, 0, none⟩), .int .i64 i] W fun e W' => e = .returned (.bool s) ∧ PS w0 W' g b l0 a x := by
 subst hs
 exact starts_calls w0 W g b l0 a j i x hi ok hT hD h
theorem term_any (w0 W : World) (g b : Nat) (l0 : List S61) (a : Nat) (x : Ex.X) (minus : Bool) (T : Option Ex.X) (ok : okT l0) (hT : Lib.TabIs Tryz.prog w0 "internal/strconv.uint64pow10" .u64 Lib.pow10Tab) (hD : LexW.LexD w0) (h : PS w0 W g b l0 a x) (hy : termAt l0 a x minus = T) :
  Calls Tryz.prog 131 #[.pointer (some ⟨g, 0, none⟩), .pointer (some ⟨b, 0, none⟩), .bool minus] W fun e W' => e = .returned (.bool T.isSome) ∧ ∃ a' y', PS w0 W' g b l0 a' y' ∧ (∀ z, T = some z → a' = a + 1 ∧ y' = z) := by
 refine (term_calls w0 W g b l0 a x minus ok hT hD h).mono ?_
 rintro e W' (⟨z, hz, rfl, hp⟩ | ⟨hz, rfl, a', hp⟩)
 ·
  rw [hy] at hz
  subst hz
  exact ⟨rfl, a + 1, z, hp, fun z' h => ⟨rfl, by cases h; rfl⟩⟩
 ·
  rw [hy] at hz
  subst hz
  exact ⟨rfl, a', x, hp, fun z' h => by cases h⟩
set_option maxHeartbeats 20000000 in
set_option maxRecDepth 100000 in
theorem sum_minus (w0 W : World) (g b : Nat) (l0 : List S61) (a : Nat) (x : Ex.X) (ha : a ≤ l0.length) (ok : okT l0) (hT : Lib.TabIs Tryz.prog w0 "internal/strconv.uint64pow10" .u64 Lib.pow10Tab) (hD : LexW.LexD w0) (h : PS w0 W g b l0 a x) (m45 : markAt l0 a 45 = true) :
  Calls Tryz.prog 113 #[.pointer (some ⟨g, 0, none⟩), .pointer (some ⟨b, 0, none⟩)] W fun e W' => SumPost w0 g b l0 (Ex.sumR ((l0.map ZT.toTok).drop a) x) e W' := by
 have HP := Aside0.mk h
 have OK := Aside0.mk ok
 have HT := Aside0.mk hT
 have HD := Aside0.mk hD
 have hl := ok.1
 obtain ⟨RES, hR⟩ : ∃ r, r = Ex.sumR ((l0.map ZT.toTok).drop a) x := ⟨_, rfl⟩
 rw [← hR]
 rw [sum_step] at hR
 clear h ok hT hD
 rw [m45] at hR
 simp only [if_true] at hR
 obtain ⟨T, hT1⟩ : ∃ T, termAt l0 (a + 1) x true = T := ⟨_, rfl⟩
 rw [hT1] at hR
 have HR := Aside0.mk hR
 clear hR
 have TL := Aside0.mk (fun z (h : T = some z) => term_lt (hT1.trans h))
 go_enter Tryz.func113, Tryz.ntmps113
 go_wp2
 go_step3
 go_wp2_with (first | (go_at_call 112; with_reducible refine (mark_to w0 _ g b l0 (a) x 45 true OK.out HP.out m45).mono ?_; rintro e w1 ⟨rfl, hp⟩; have P1 := Aside0.mk hp; clear hp) | (go_at_call 131; with_reducible refine (term_any w0 _ g b l0 (a + 1) x true T OK.out HT.out HD.out P1.out hT1).mono ?_; rintro e w2 ⟨rfl, a2, y2, hp, hz2⟩; have P2 := Aside0.mk hp; have Z2 := Aside0.mk hz2; clear hp hz2))
 go_step3
 go_wp2
 go_loopg [6] (l0.length + 2) (fun gf v6 wx => ∃ (okb : Bool) (i : Nat) (y : Ex.X), v6 = .bool okb ∧ Aside0 (PS w0 wx g b l0 i y) ∧ Aside0 ((okb = true → i ≤ l0.length ∧ RES = finR (Ex.loopR ((l0.map ZT.toTok).drop i) y)) ∧ (okb = false → RES = none)) ∧ Aside0 (okb = true → l0.length + 1 ≤ i + gf))
 case atStart => exact ⟨T.isSome, a2, y2, rfl, P2, ⟨⟨fun h => by obtain ⟨z, rfl⟩ := Option.isSome_iff_exists.1 h; obtain ⟨rfl, rfl⟩ := Z2.out z rfl; exact ⟨by have := TL.out _ rfl; omega, HR.out⟩, fun h => by cases T with | none => exact HR.out | some z => cases h⟩⟩, ⟨fun h => by omega⟩⟩
 case round =>
  obtain ⟨okb, i, y, rfl, P, R, G⟩ := hrel
  cases okb with
  | false =>
   go_wp2
   go_ret
   exact .inr ⟨R.out.2 (by simp), rfl, i, y, P.out⟩
  | true =>
   obtain ⟨hi, hR⟩ := R.out.1 rfl
   have hG := G.out rfl
   rw [loop_step] at hR
   clear R G
   have hb1 : wrap64 ((i : Int) + 1) = ((i + 1 : Nat) : Int) := by unfold wrap64; omega
   obtain ⟨A3, c3, HG3, hge3, HS3⟩ := P.out.i
   have hcz1 := cellS134_1 HG3
   clear HG3 hge3 HS3
   cases hs1 : startsAt l0 (i + 1) with
   | false =>
    rw [hs1, if_neg (by simp)] at hR
    have HRR := Aside0.mk hR
    clear hR
    skip
    by_cases hs : y.s = []
    ·
     obtain ⟨z1, z2, z3⟩ := empty_s hs
     have z4 : y.s.isEmpty = true := List.isEmpty_iff.2 hs
     by_cases hl2 : y.l = []
     ·
      obtain ⟨v1, v2, v3⟩ := empty_s hl2
      have v4 : y.l.isEmpty = true := List.isEmpty_iff.2 hl2
      go_wp2_with (first | (go_at_call 132; with_reducible refine (starts_to w0 _ g b l0 (i) (i + 1) ((i : Int) + 1) y false rfl OK.out HT.out HD.out P.out hs1).mono ?_; rintro e w1 ⟨rfl, hp⟩; have P1 := Aside0.mk hp; clear hp; obtain ⟨cb0, cb1⟩ := cells_of P1.out))
      go_ret
      exact .inl ⟨_, y, hi, by rw [HRR.out]; exact if_pos (.inr hl2), rfl, P1.out⟩
     ·
      obtain ⟨v1, v2, v3⟩ := nonempty_s hl2
      have v4 : y.l.isEmpty = false := List.isEmpty_eq_false_iff.2 hl2
      go_wp2_with (first | (go_at_call 132; with_reducible refine (starts_to w0 _ g b l0 (i) (i + 1) ((i : Int) + 1) y false rfl OK.out HT.out HD.out P.out hs1).mono ?_; rintro e w1 ⟨rfl, hp⟩; have P1 := Aside0.mk hp; clear hp; obtain ⟨cb0, cb1⟩ := cells_of P1.out))
      go_ret
      exact .inr ⟨by rw [HRR.out]; exact if_neg qbd0, rfl, _, y, P1.out⟩
    ·
     obtain ⟨z1, z2, z3⟩ := nonempty_s hs
     have z4 : y.s.isEmpty = false := List.isEmpty_eq_false_iff.2 hs
     go_wp2_with (first | (go_at_call 132; with_reducible refine (starts_to w0 _ g b l0 (i) (i + 1) ((i : Int) + 1) y false rfl OK.out HT.out HD.out P.out hs1).mono ?_; rintro e w1 ⟨rfl, hp⟩; have P1 := Aside0.mk hp; clear hp; obtain ⟨cb0, cb1⟩ := cells_of P1.out))
     go_ret
     exact .inl ⟨_, y, hi, by rw [HRR.out]; exact if_pos (.inl hs), rfl, P1.out⟩
   | true =>
    rw [hs1, if_pos rfl] at hR
    have hlt := start_lt hs1
    obtain ⟨g', rfl⟩ : ∃ g', gk = g' + 1 := ⟨gk - 1, by omega⟩
    cases hm1 : markAt l0 i 43 with
    | true =>
     rw [hm1, if_pos rfl] at hR
     obtain ⟨T, hT1⟩ : ∃ T, termAt l0 (i + 1) y false = T := ⟨_, rfl⟩
     rw [hT1] at hR
     have HRR := Aside0.mk hR
     clear hR
     go_wp2_with (first | (go_at_call 132; with_reducible refine (starts_to w0 _ g b l0 (i) (i + 1) ((i : Int) + 1) y true rfl OK.out HT.out HD.out P.out hs1).mono ?_; rintro e w1 ⟨rfl, hp⟩; have P1 := Aside0.mk hp; clear hp) | (go_at_call 112; with_reducible refine (mark_to w0 _ g b l0 (i) y 43 true OK.out P1.out hm1).mono ?_; rintro e w2 ⟨rfl, hp⟩; have P2 := Aside0.mk hp; clear hp) | (go_at_call 131; with_reducible refine (term_any w0 _ g b l0 (i + 1) y false T OK.out HT.out HD.out P2.out hT1).mono ?_; rintro e w3 ⟨rfl, a3, y3, hp, hz3⟩; have P3 := Aside0.mk hp; have Z3 := Aside0.mk hz3; clear hp hz3))
     go_roundg g'
     case measure => omega
     case rel => exact ⟨T.isSome, a3, y3, rfl, P3, ⟨⟨fun h => by obtain ⟨z, rfl⟩ := Option.isSome_iff_exists.1 h; obtain ⟨rfl, rfl⟩ := Z3.out z rfl; exact ⟨by omega, HRR.out⟩, fun h => by cases T with | none => exact HRR.out | some z => cases h⟩⟩, ⟨fun h => by obtain ⟨z, rfl⟩ := Option.isSome_iff_exists.1 h; obtain ⟨rfl, rfl⟩ := Z3.out z rfl; omega⟩⟩
    | false =>
     rw [hm1, if_neg (by simp)] at hR
     cases hm2 : markAt l0 i 45 with
     | true =>
      rw [hm2, if_pos rfl] at hR
      obtain ⟨T, hT1⟩ : ∃ T, termAt l0 (i + 1) y true = T := ⟨_, rfl⟩
      rw [hT1] at hR
      have HRR := Aside0.mk hR
      clear hR
      go_wp2_with (first | (go_at_call 132; with_reducible refine (starts_to w0 _ g b l0 (i) (i + 1) ((i : Int) + 1) y true rfl OK.out HT.out HD.out P.out hs1).mono ?_; rintro e w1 ⟨rfl, hp⟩; have P1 := Aside0.mk hp; clear hp) | (go_at_call 112; with_reducible refine (mark_to w0 _ g b l0 (i) y 43 false OK.out P1.out hm1).mono ?_; rintro e w2 ⟨rfl, hp⟩; have P2 := Aside0.mk hp; clear hp) | (go_at_call 112; with_reducible refine (mark_to w0 _ g b l0 (i) y 45 true OK.out P2.out hm2).mono ?_; rintro e w3 ⟨rfl, hp⟩; have P3 := Aside0.mk hp; clear hp) | (go_at_call 131; with_reducible refine (term_any w0 _ g b l0 (i + 1) y true T OK.out HT.out HD.out P3.out hT1).mono ?_; rintro e w4 ⟨rfl, a4, y4, hp, hz4⟩; have P4 := Aside0.mk hp; have Z4 := Aside0.mk hz4; clear hp hz4))
      go_roundg g'
      case measure => omega
      case rel => exact ⟨T.isSome, a4, y4, rfl, P4, ⟨⟨fun h => by obtain ⟨z, rfl⟩ := Option.isSome_iff_exists.1 h; obtain ⟨rfl, rfl⟩ := Z4.out z rfl; exact ⟨by omega, HRR.out⟩, fun h => by cases T with | none => exact HRR.out | some z => cases h⟩⟩, ⟨fun h => by obtain ⟨z, rfl⟩ := Option.isSome_iff_exists.1 h; obtain ⟨rfl, rfl⟩ := Z4.out z rfl; omega⟩⟩
     | false =>
      rw [hm2, if_neg (by simp)] at hR
      have HRR := Aside0.mk hR
      clear hR
      skip
      by_cases hs : y.s = []
      ·
       obtain ⟨z1, z2, z3⟩ := empty_s hs
       have z4 : y.s.isEmpty = true := List.isEmpty_iff.2 hs
       by_cases hl2 : y.l = []
       ·
        obtain ⟨v1, v2, v3⟩ := empty_s hl2
        have v4 : y.l.isEmpty = true := List.isEmpty_iff.2 hl2
        go_wp2_with (first | (go_at_call 132; with_reducible refine (starts_to w0 _ g b l0 (i) (i + 1) ((i : Int) + 1) y true rfl OK.out HT.out HD.out P.out hs1).mono ?_; rintro e w1 ⟨rfl, hp⟩; have P1 := Aside0.mk hp; clear hp) | (go_at_call 112; with_reducible refine (mark_to w0 _ g b l0 (i) y 43 false OK.out P1.out hm1).mono ?_; rintro e w2 ⟨rfl, hp⟩; have P2 := Aside0.mk hp; clear hp) | (go_at_call 112; with_reducible refine (mark_to w0 _ g b l0 (i) y 45 false OK.out P2.out hm2).mono ?_; rintro e w3 ⟨rfl, hp⟩; have P3 := Aside0.mk hp; clear hp; obtain ⟨cb0, cb1⟩ := cells_of P3.out))
        go_ret
        exact .inl ⟨_, y, hi, by rw [HRR.out]; exact if_pos (.inr hl2), rfl, P3.out⟩
       ·
        obtain ⟨v1, v2, v3⟩ := nonempty_s hl2
        have v4 : y.l.isEmpty = false := List.isEmpty_eq_false_iff.2 hl2
        go_wp2_with (first | (go_at_call 132; with_reducible refine (starts_to w0 _ g b l0 (i) (i + 1) ((i : Int) + 1) y true rfl OK.out HT.out HD.out P.out hs1).mono ?_; rintro e w1 ⟨rfl, hp⟩; have P1 := Aside0.mk hp; clear hp) | (go_at_call 112; with_reducible refine (mark_to w0 _ g b l0 (i) y 43 false OK.out P1.out hm1).mono ?_; rintro e w2 ⟨rfl, hp⟩; have P2 := Aside0.mk hp; clear hp) | (go_at_call 112; with_reducible refine (mark_to w0 _ g b l0 (i) y 45 false OK.out P2.out hm2).mono ?_; rintro e w3 ⟨rfl, hp⟩; have P3 := Aside0.mk hp; clear hp; obtain ⟨cb0, cb1⟩ := cells_of P3.out))
        go_ret
        exact .inr ⟨by rw [HRR.out]; exact if_neg qbd0, rfl, _, y, P3.out⟩
      ·
       obtain ⟨z1, z2, z3⟩ := nonempty_s hs
       have z4 : y.s.isEmpty = false := List.isEmpty_eq_false_iff.2 hs
       go_wp2_with (first | (go_at_call 132; with_reducible refine (starts_to w0 _ g b l0 (i) (i + 1) ((i : Int) + 1) y true rfl OK.out HT.out HD.out P.out hs1).mono ?_; rintro e w1 ⟨rfl, hp⟩; have P1 := Aside0.mk hp; clear hp) | (go_at_call 112; with_reducible refine (mark_to w0 _ g b l0 (i) y 43 false OK.out P1.out hm1).mono ?_; rintro e w2 ⟨rfl, hp⟩; have P2 := Aside0.mk hp; clear hp) | (go_at_call 112; with_reducible refine (mark_to w0 _ g b l0 (i) y 45 false OK.out P2.out hm2).mono ?_; rintro e w3 ⟨rfl, hp⟩; have P3 := Aside0.mk hp; clear hp; obtain ⟨cb0, cb1⟩ := cells_of P3.out))
       go_ret
       exact .inl ⟨_, y, hi, by rw [HRR.out]; exact if_pos (.inl hs), rfl, P3.out⟩
set_option maxHeartbeats 20000000 in
set_option maxRecDepth 100000 in
theorem sum_plus (w0 W : World) (g b : Nat) (l0 : List S61) (a : Nat) (x : Ex.X) (ha : a ≤ l0.length) (ok : okT l0) (hT : Lib.TabIs Tryz.prog w0 "internal/strconv.uint64pow10" .u64 Lib.pow10Tab) (hD : LexW.LexD w0) (h : PS w0 W g b l0 a x) (m45 : markAt l0 a 45 = false) :
  Calls Tryz.prog 113 #[.pointer (some ⟨g, 0, none⟩), .pointer (some ⟨b, 0, none⟩)] W fun e W' => SumPost w0 g b l0 (Ex.sumR ((l0.map ZT.toTok).drop a) x) e W' := by
 have HP := Aside0.mk h
 have OK := Aside0.mk ok
 have HT := Aside0.mk hT
 have HD := Aside0.mk hD
 have hl := ok.1
 obtain ⟨RES, hR⟩ : ∃ r, r = Ex.sumR ((l0.map ZT.toTok).drop a) x := ⟨_, rfl⟩
 rw [← hR]
 rw [sum_step] at hR
 clear h ok hT hD
 rw [m45] at hR
 simp only [Bool.false_eq_true, if_false] at hR
 obtain ⟨T, hT1⟩ : ∃ T, termAt l0 ((if markAt l0 a 43 = true then a + 1 else a)) x false = T := ⟨_, rfl⟩
 rw [hT1] at hR
 have HR := Aside0.mk hR
 clear hR
 have TL := Aside0.mk (fun z (h : T = some z) => term_lt (hT1.trans h))
 go_enter Tryz.func113, Tryz.ntmps113
 go_wp2
 go_step3
 go_wp2_with (first | (go_at_call 112; with_reducible refine (mark_to w0 _ g b l0 (a) x 45 false OK.out HP.out m45).mono ?_; rintro e w1 ⟨rfl, hp⟩; have P1 := Aside0.mk hp; clear hp) | (go_at_call 112; with_reducible refine (mark_calls w0 _ g b l0 a x 43 OK.out P1.out).mono ?_; rintro e w2 ⟨rfl, hp⟩; have P2 := Aside0.mk hp; clear hp) | (go_at_call 131; with_reducible refine (term_any w0 _ g b l0 ((if markAt l0 a 43 = true then a + 1 else a)) x false T OK.out HT.out HD.out P2.out hT1).mono ?_; rintro e w3 ⟨rfl, a3, y3, hp, hz3⟩; have P3 := Aside0.mk hp; have Z3 := Aside0.mk hz3; clear hp hz3))
 go_step3
 go_wp2
 go_loopg [6] (l0.length + 2) (fun gf v6 wx => ∃ (okb : Bool) (i : Nat) (y : Ex.X), v6 = .bool okb ∧ Aside0 (PS w0 wx g b l0 i y) ∧ Aside0 ((okb = true → i ≤ l0.length ∧ RES = finR (Ex.loopR ((l0.map ZT.toTok).drop i) y)) ∧ (okb = false → RES = none)) ∧ Aside0 (okb = true → l0.length + 1 ≤ i + gf))
 case atStart => exact ⟨T.isSome, a3, y3, rfl, P3, ⟨⟨fun h => by obtain ⟨z, rfl⟩ := Option.isSome_iff_exists.1 h; obtain ⟨rfl, rfl⟩ := Z3.out z rfl; exact ⟨by have := TL.out _ rfl; omega, HR.out⟩, fun h => by cases T with | none => exact HR.out | some z => cases h⟩⟩, ⟨fun h => by omega⟩⟩
 case round =>
  obtain ⟨okb, i, y, rfl, P, R, G⟩ := hrel
  cases okb with
  | false =>
   go_wp2
   go_ret
   exact .inr ⟨R.out.2 (by simp), rfl, i, y, P.out⟩
  | true =>
   obtain ⟨hi, hR⟩ := R.out.1 rfl
   have hG := G.out rfl
   rw [loop_step] at hR
   clear R G
   have hb1 : wrap64 ((i : Int) + 1) = ((i + 1 : Nat) : Int) := by unfold wrap64; omega
   obtain ⟨A3, c3, HG3, hge3, HS3⟩ := P.out.i
   have hcz1 := cellS134_1 HG3
   clear HG3 hge3 HS3
   cases hs1 : startsAt l0 (i + 1) with
   | false =>
    rw [hs1, if_neg (by simp)] at hR
    have HRR := Aside0.mk hR
    clear hR
    skip
    by_cases hs : y.s = []
    ·
     obtain ⟨z1, z2, z3⟩ := empty_s hs
     have z4 : y.s.isEmpty = true := List.isEmpty_iff.2 hs
     by_cases hl2 : y.l = []
     ·
      obtain ⟨v1, v2, v3⟩ := empty_s hl2
      have v4 : y.l.isEmpty = true := List.isEmpty_iff.2 hl2
      go_wp2_with (first | (go_at_call 132; with_reducible refine (starts_to w0 _ g b l0 (i) (i + 1) ((i : Int) + 1) y false rfl OK.out HT.out HD.out P.out hs1).mono ?_; rintro e w1 ⟨rfl, hp⟩; have P1 := Aside0.mk hp; clear hp; obtain ⟨cb0, cb1⟩ := cells_of P1.out))
      go_ret
      exact .inl ⟨_, y, hi, by rw [HRR.out]; exact if_pos (.inr hl2), rfl, P1.out⟩
     ·
      obtain ⟨v1, v2, v3⟩ := nonempty_s hl2
      have v4 : y.l.isEmpty = false := List.isEmpty_eq_false_iff.2 hl2
      go_wp2_with (first | (go_at_call 132; with_reducible refine (starts_to w0 _ g b l0 (i) (i + 1) ((i : Int) + 1) y false rfl OK.out HT.out HD.out P.out hs1).mono ?_; rintro e w1 ⟨rfl, hp⟩; have P1 := Aside0.mk hp; clear hp; obtain ⟨cb0, cb1⟩ := cells_of P1.out))
      go_ret
      exact .inr ⟨by rw [HRR.out]; exact if_neg qbd0, rfl, _, y, P1.out⟩
    ·
     obtain ⟨z1, z2, z3⟩ := nonempty_s hs
     have z4 : y.s.isEmpty = false := List.isEmpty_eq_false_iff.2 hs
     go_wp2_with (first | (go_at_call 132; with_reducible refine (starts_to w0 _ g b l0 (i) (i + 1) ((i : Int) + 1) y false rfl OK.out HT.out HD.out P.out hs1).mono ?_; rintro e w1 ⟨rfl, hp⟩; have P1 := Aside0.mk hp; clear hp; obtain ⟨cb0, cb1⟩ := cells_of P1.out))
     go_ret
     exact .inl ⟨_, y, hi, by rw [HRR.out]; exact if_pos (.inl hs), rfl, P1.out⟩
   | true =>
    rw [hs1, if_pos rfl] at hR
    have hlt := start_lt hs1
    obtain ⟨g', rfl⟩ : ∃ g', gk = g' + 1 := ⟨gk - 1, by omega⟩
    cases hm1 : markAt l0 i 43 with
    | true =>
     rw [hm1, if_pos rfl] at hR
     obtain ⟨T, hT1⟩ : ∃ T, termAt l0 (i + 1) y false = T := ⟨_, rfl⟩
     rw [hT1] at hR
     have HRR := Aside0.mk hR
     clear hR
     go_wp2_with (first | (go_at_call 132; with_reducible refine (starts_to w0 _ g b l0 (i) (i + 1) ((i : Int) + 1) y true rfl OK.out HT.out HD.out P.out hs1).mono ?_; rintro e w1 ⟨rfl, hp⟩; have P1 := Aside0.mk hp; clear hp) | (go_at_call 112; with_reducible refine (mark_to w0 _ g b l0 (i) y 43 true OK.out P1.out hm1).mono ?_; rintro e w2 ⟨rfl, hp⟩; have P2 := Aside0.mk hp; clear hp) | (go_at_call 131; with_reducible refine (term_any w0 _ g b l0 (i + 1) y false T OK.out HT.out HD.out P2.out hT1).mono ?_; rintro e w3 ⟨rfl, a3, y3, hp, hz3⟩; have P3 := Aside0.mk hp; have Z3 := Aside0.mk hz3; clear hp hz3))
     go_roundg g'
     case measure => omega
     case rel => exact ⟨T.isSome, a3, y3, rfl, P3, ⟨⟨fun h => by obtain ⟨z, rfl⟩ := Option.isSome_iff_exists.1 h; obtain ⟨rfl, rfl⟩ := Z3.out z rfl; exact ⟨by omega, HRR.out⟩, fun h => by cases T with | none => exact HRR.out | some z => cases h⟩⟩, ⟨fun h => by obtain ⟨z, rfl⟩ := Option.isSome_iff_exists.1 h; obtain ⟨rfl, rfl⟩ := Z3.out z rfl; omega⟩⟩
    | false =>
     rw [hm1, if_neg (by simp)] at hR
     cases hm2 : markAt l0 i 45 with
     | true =>
      rw [hm2, if_pos rfl] at hR
      obtain ⟨T, hT1⟩ : ∃ T, termAt l0 (i + 1) y true = T := ⟨_, rfl⟩
      rw [hT1] at hR
      have HRR := Aside0.mk hR
      clear hR
      go_wp2_with (first | (go_at_call 132; with_reducible refine (starts_to w0 _ g b l0 (i) (i + 1) ((i : Int) + 1) y true rfl OK.out HT.out HD.out P.out hs1).mono ?_; rintro e w1 ⟨rfl, hp⟩; have P1 := Aside0.mk hp; clear hp) | (go_at_call 112; with_reducible refine (mark_to w0 _ g b l0 (i) y 43 false OK.out P1.out hm1).mono ?_; rintro e w2 ⟨rfl, hp⟩; have P2 := Aside0.mk hp; clear hp) | (go_at_call 112; with_reducible refine (mark_to w0 _ g b l0 (i) y 45 true OK.out P2.out hm2).mono ?_; rintro e w3 ⟨rfl, hp⟩; have P3 := Aside0.mk hp; clear hp) | (go_at_call 131; with_reducible refine (term_any w0 _ g b l0 (i + 1) y true T OK.out HT.out HD.out P3.out hT1).mono ?_; rintro e w4 ⟨rfl, a4, y4, hp, hz4⟩; have P4 := Aside0.mk hp; have Z4 := Aside0.mk hz4; clear hp hz4))
      go_roundg g'
      case measure => omega
      case rel => exact ⟨T.isSome, a4, y4, rfl, P4, ⟨⟨fun h => by obtain ⟨z, rfl⟩ := Option.isSome_iff_exists.1 h; obtain ⟨rfl, rfl⟩ := Z4.out z rfl; exact ⟨by omega, HRR.out⟩, fun h => by cases T with | none => exact HRR.out | some z => cases h⟩⟩, ⟨fun h => by obtain ⟨z, rfl⟩ := Option.isSome_iff_exists.1 h; obtain ⟨rfl, rfl⟩ := Z4.out z rfl; omega⟩⟩
     | false =>
      rw [hm2, if_neg (by simp)] at hR
      have HRR := Aside0.mk hR
      clear hR
      skip
      by_cases hs : y.s = []
      ·
       obtain ⟨z1, z2, z3⟩ := empty_s hs
       have z4 : y.s.isEmpty = true := List.isEmpty_iff.2 hs
       by_cases hl2 : y.l = []
       ·
        obtain ⟨v1, v2, v3⟩ := empty_s hl2
        have v4 : y.l.isEmpty = true := List.isEmpty_iff.2 hl2
        go_wp2_with (first | (go_at_call 132; with_reducible refine (starts_to w0 _ g b l0 (i) (i + 1) ((i : Int) + 1) y true rfl OK.out HT.out HD.out P.out hs1).mono ?_; rintro e w1 ⟨rfl, hp⟩; have P1 := Aside0.mk hp; clear hp) | (go_at_call 112; with_reducible refine (mark_to w0 _ g b l0 (i) y 43 false OK.out P1.out hm1).mono ?_; rintro e w2 ⟨rfl, hp⟩; have P2 := Aside0.mk hp; clear hp) | (go_at_call 112; with_reducible refine (mark_to w0 _ g b l0 (i) y 45 false OK.out P2.out hm2).mono ?_; rintro e w3 ⟨rfl, hp⟩; have P3 := Aside0.mk hp; clear hp; obtain ⟨cb0, cb1⟩ := cells_of P3.out))
        go_ret
        exact .inl ⟨_, y, hi, by rw [HRR.out]; exact if_pos (.inr hl2), rfl, P3.out⟩
       ·
        obtain ⟨v1, v2, v3⟩ := nonempty_s hl2
        have v4 : y.l.isEmpty = false := List.isEmpty_eq_false_iff.2 hl2
        go_wp2_with (first | (go_at_call 132; with_reducible refine (starts_to w0 _ g b l0 (i) (i + 1) ((i : Int) + 1) y true rfl OK.out HT.out HD.out P.out hs1).mono ?_; rintro e w1 ⟨rfl, hp⟩; have P1 := Aside0.mk hp; clear hp) | (go_at_call 112; with_reducible refine (mark_to w0 _ g b l0 (i) y 43 false OK.out P1.out hm1).mono ?_; rintro e w2 ⟨rfl, hp⟩; have P2 := Aside0.mk hp; clear hp) | (go_at_call 112; with_reducible refine (mark_to w0 _ g b l0 (i) y 45 false OK.out P2.out hm2).mono ?_; rintro e w3 ⟨rfl, hp⟩; have P3 := Aside0.mk hp; clear hp; obtain ⟨cb0, cb1⟩ := cells_of P3.out))
        go_ret
        exact .inr ⟨by rw [HRR.out]; exact if_neg qbd0, rfl, _, y, P3.out⟩
      ·
       obtain ⟨z1, z2, z3⟩ := nonempty_s hs
       have z4 : y.s.isEmpty = false := List.isEmpty_eq_false_iff.2 hs
       go_wp2_with (first | (go_at_call 132; with_reducible refine (starts_to w0 _ g b l0 (i) (i + 1) ((i : Int) + 1) y true rfl OK.out HT.out HD.out P.out hs1).mono ?_; rintro e w1 ⟨rfl, hp⟩; have P1 := Aside0.mk hp; clear hp) | (go_at_call 112; with_reducible refine (mark_to w0 _ g b l0 (i) y 43 false OK.out P1.out hm1).mono ?_; rintro e w2 ⟨rfl, hp⟩; have P2 := Aside0.mk hp; clear hp) | (go_at_call 112; with_reducible refine (mark_to w0 _ g b l0 (i) y 45 false OK.out P2.out hm2).mono ?_; rintro e w3 ⟨rfl, hp⟩; have P3 := Aside0.mk hp; clear hp; obtain ⟨cb0, cb1⟩ := cells_of P3.out))
       go_ret
       exact .inl ⟨_, y, hi, by rw [HRR.out]; exact if_pos (.inl hs), rfl, P3.out⟩
theorem sum_calls (w0 W : World) (g b : Nat) (l0 : List S61) (a : Nat) (x : Ex.X) (ha : a ≤ l0.length) (ok : okT l0) (hT : Lib.TabIs Tryz.prog w0 "internal/strconv.uint64pow10" .u64 Lib.pow10Tab) (hD : LexW.LexD w0) (h : PS w0 W g b l0 a x) :
  Calls Tryz.prog 113 #[.pointer (some ⟨g, 0, none⟩), .pointer (some ⟨b, 0, none⟩)] W fun e W' => SumPost w0 g b l0 (Ex.sumR ((l0.map ZT.toTok).drop a) x) e W' := by
 cases m : markAt l0 a 45 with
 | true => exact sum_minus w0 W g b l0 a x ha ok hT hD h m
 | false => exact sum_plus w0 W g b l0 a x ha ok hT hD h m
def MODS : List ByteArray := [⟨(Ex.modName 1).toArray⟩, ⟨(Ex.modName 2).toArray⟩, ⟨(Ex.modName 3).toArray⟩, ⟨(Ex.modName 4).toArray⟩]
theorem index_f (s : ByteArray) : slices_Index_string_string.f 10 MODS s = some ((Ex.modL s.data.toList : Int) - 1) := by
 unfold slices_Index_string_string.f MODS
 have hl : ([(⟨(Ex.modName 1).toArray⟩ : ByteArray), ⟨(Ex.modName 2).toArray⟩, ⟨(Ex.modName 3).toArray⟩, ⟨(Ex.modName 4).toArray⟩].length : Int) = 4 := rfl
 have e : ∀ l : List UInt8, (⟨l.toArray⟩ : ByteArray).toList = l := fun l => by rw [ByteArray.toList_eq]
 unfold Ex.modL
 rw [hl]
 simp only [slices_Index_string_string.l0, rdOf]
 have w0 : wrap64 (0 + 1) = 1 := by unfold wrap64; omega
 have w1 : wrap64 (1 + 1) = 2 := by unfold wrap64; omega
 have w2 : wrap64 (2 + 1) = 3 := by unfold wrap64; omega
 have w3 : wrap64 (3 + 1) = 4 := by unfold wrap64; omega
 rw [w0, w1, w2, w3, ByteArray.toList_eq s]
 by_cases h1 : s.data.toList = Ex.modName 1
 ·
  simp [h1, e]
 by_cases h2 : s.data.toList = Ex.modName 2
 ·
  rw [h2]; simp only [e]; decide
 by_cases h3 : s.data.toList = Ex.modName 3
 ·
  rw [h3]; simp only [e]; decide
 by_cases h4 : s.data.toList = Ex.modName 4
 ·
  rw [h4]; simp only [e]; decide
 simp [h1, h2, h3, h4, e]
theorem mods_row {w : World} (h : ExW.ModsAt w) : Kd.C Kd.string w (some ⟨1, 0, none⟩) 4 MODS := by
  refine Kd.C_of_reads (enc := Value.string) (d := ByteArray.empty) (h1 := fun _ => rfl) ⟨rfl, by decide, fun _ => ⟨_, rfl, fun j hj => ?_⟩⟩
  have : j = 0 ∨ j = 1 ∨ j = 2 ∨ j = 3 := by omega
  rcases this with rfl | rfl | rfl | rfl
  · exact h 0 (by decide)
  · exact h 1 (by decide)
  · exact h 2 (by decide)
  · exact h 3 (by decide)
theorem mods_calls (s : ByteArray) (w : World) (m : Nat) (h : ExW.ModsAt w) (hm : slices_Index_string_string.f 10 MODS s = some ((m : Int) - 1)) :
  Calls Tryz.prog 111 #[.slice (some ⟨1, 0, none⟩) 4 4, .string s] w fun e w' => e = .returned (.int .i64 ((m : Int) - 1)) ∧ Drawn0 w w' :=
 slices_Index_string_string.calls 10 _ 4 MODS s _ w (mods_row h) (Nat.le_refl 4) hm
def modR (l0 : List S61) (a m : Nat) : Option (List Lex.Tok × Ex.X) :=
 if m = 0 then none else if markAt l0 (a + 1) 40 = true then (match Ex.sumR ((l0.map ZT.toTok).drop (a + 2)) { Ex.x0 with m := m } with
  | none => none
  | some (r, y) => match r with | [] => none | v :: r4 => if v = Ex.mk 41 then some (r4, y) else none) else none
theorem parse_mod (l0 : List S61) (a : Nat) (h : a < l0.length) (hp : (ZT.toTok l0[a]).k = 1 ∧ (ZT.toTok l0[a]).t.getD 0 0 = 37) : Ex.parseR ((l0.map ZT.toTok).drop a) = modR l0 a (Ex.modL (ZT.toTok l0[a]).t) := by
 rw [drop_cons l0 a h]
 simp only [Ex.parseR]
 rw [if_pos hp]
 unfold modR markAt
 by_cases hm : Ex.modL (ZT.toTok l0[a]).t = 0
 ·
  rw [if_pos hm, if_pos hm]
 rw [if_neg hm, if_neg hm]
 by_cases h1 : a + 1 < l0.length
 ·
  rw [at_some l0 (a + 1) h1, drop_cons l0 (a + 1) h1]
  simp only [decide_eq_true_eq]
  by_cases hu : ZT.toTok l0[a + 1] = Ex.mk 40
  ·
   rw [if_pos hu, if_pos hu]
   cases Ex.sumR ((l0.map ZT.toTok).drop (a + 1 + 1)) { Ex.x0 with m := Ex.modL (ZT.toTok l0[a]).t } with
   | none => rfl
   | some p =>
    obtain ⟨r, y⟩ := p
    cases r <;> rfl
  ·
   rw [if_neg hu, if_neg hu]
 ·
  rw [at_none l0 (a + 1) h1, drop_none l0 (a + 1) h1]
  simp
theorem zero_put {W : World} {b : Nat} {x : Ex.X} (h : W.heap[b]? = some (.cells (xV x) 38 (0, 0))) :
  ((((W.setCell ⟨b, 0, none⟩ (.string (⟨#[]⟩ : ByteArray))).setCell ⟨b, 1, none⟩ (.string (⟨#[]⟩ : ByteArray))).setCell ⟨b, 2, none⟩ (.int .i64 0)).setCell ⟨b, 3, none⟩ (.int .u8 0)).heap[b]? = some (.cells (xV Ex.x0) 38 (0, 0)) :=
 blk_put (blk_put (blk_put (blk_put (cs' := #[.string (⟨#[]⟩ : ByteArray), .string ⟨x.l.toArray⟩, .int .i64 x.n, .int .u8 (x.m : Int)]) h 0 _ rfl) (cs' := #[.string (⟨#[]⟩ : ByteArray), .string (⟨#[]⟩ : ByteArray), .int .i64 x.n, .int .u8 (x.m : Int)]) 1 _ rfl) (cs' := #[.string (⟨#[]⟩ : ByteArray), .string (⟨#[]⟩ : ByteArray), .int .i64 0, .int .u8 (x.m : Int)]) 2 _ rfl) (cs' := xV Ex.x0) 3 _ rfl
theorem zero_below {w W : World} {b : Nat} (h : Below w.heap.size w W) (hb : w.heap.size ≤ b) : Below w.heap.size w ((((W.setCell ⟨b, 0, none⟩ (.string (⟨#[]⟩ : ByteArray))).setCell ⟨b, 1, none⟩ (.string (⟨#[]⟩ : ByteArray))).setCell ⟨b, 2, none⟩ (.int .i64 0)).setCell ⟨b, 3, none⟩ (.int .u8 0)) :=
 below_set (below_set (below_set (below_set h hb) hb) hb) hb
theorem contains_to (A0 : Option Addr) (c0 : Nat) (l0 : List S61) (w : World) (v : Bool) (hr0 : Kd.C k61 w A0 l0.length l0) (ok : okT l0) (hT : Lib.TabIs Tryz.prog w "internal/strconv.uint64pow10" .u64 Lib.pow10Tab) (hD : LexW.LexD w) (hv : (!(l0.map ZT.toTok).all Lex.mayL) = v) :
  Calls Tryz.prog 109 #[.slice A0 l0.length c0, .func (.func 110) #[] #[]] w fun e w' => e = .returned (.bool v) ∧ Below w.heap.size w w' := by
 subst hv
 exact contains_calls A0 c0 l0 w hr0 ok hT hD
theorem sum_some (w0 W : World) (g b : Nat) (l0 : List S61) (a : Nat) (x : Ex.X) (r : List Lex.Tok) (y : Ex.X) (ha : a ≤ l0.length) (ok : okT l0) (hT : Lib.TabIs Tryz.prog w0 "internal/strconv.uint64pow10" .u64 Lib.pow10Tab) (hD : LexW.LexD w0) (h : PS w0 W g b l0 a x) (hs : Ex.sumR ((l0.map ZT.toTok).drop a) x = some (r, y)) :
  Calls Tryz.prog 113 #[.pointer (some ⟨g, 0, none⟩), .pointer (some ⟨b, 0, none⟩)] W fun e W' => e = .returned (.bool true) ∧ ∃ a', a' ≤ l0.length ∧ r = (l0.map ZT.toTok).drop a' ∧ PS w0 W' g b l0 a' y := by
 refine (sum_calls w0 W g b l0 a x ha ok hT hD h).mono ?_
 rintro e W' (⟨a', z, ha', hr, he, hp⟩ | ⟨hr, _⟩)
 ·
  rw [hs] at hr
  cases hr
  exact ⟨he, a', ha', rfl, hp⟩
 ·
  rw [hs] at hr
  cases hr
theorem sum_some2 (w0 W : World) (g b : Nat) (l0 : List S61) (a : Nat) (x : Ex.X) (r : List Lex.Tok) (y : Ex.X) (A4 : Nat) (hA : A4 = l0.length - r.length) (ha : a ≤ l0.length) (ok : okT l0) (hT : Lib.TabIs Tryz.prog w0 "internal/strconv.uint64pow10" .u64 Lib.pow10Tab) (hD : LexW.LexD w0) (h : PS w0 W g b l0 a x) (hs : Ex.sumR ((l0.map ZT.toTok).drop a) x = some (r, y)) :
  Calls Tryz.prog 113 #[.pointer (some ⟨g, 0, none⟩), .pointer (some ⟨b, 0, none⟩)] W fun e W' => e = .returned (.bool true) ∧ r = (l0.map ZT.toTok).drop A4 ∧ PS w0 W' g b l0 A4 y := by
 refine (sum_some w0 W g b l0 a x r y ha ok hT hD h hs).mono ?_
 rintro e W' ⟨he, a', ha', rfl, hp⟩
 have : A4 = a' := by
  rw [hA, List.length_drop, List.length_map]
  omega
 subst this
 exact ⟨he, rfl, hp⟩
theorem sum_none (w0 W : World) (g b : Nat) (l0 : List S61) (a : Nat) (x : Ex.X) (ha : a ≤ l0.length) (ok : okT l0) (hT : Lib.TabIs Tryz.prog w0 "internal/strconv.uint64pow10" .u64 Lib.pow10Tab) (hD : LexW.LexD w0) (h : PS w0 W g b l0 a x) (hs : Ex.sumR ((l0.map ZT.toTok).drop a) x = none) :
  Calls Tryz.prog 113 #[.pointer (some ⟨g, 0, none⟩), .pointer (some ⟨b, 0, none⟩)] W fun e W' => e = .returned (.bool false) ∧ ∃ a' y, PS w0 W' g b l0 a' y := by
 refine (sum_calls w0 W g b l0 a x ha ok hT hD h).mono ?_
 rintro e W' (⟨a', z, ha', hr, he, hp⟩ | ⟨hr, he, hp⟩)
 ·
  rw [hs] at hr
  cases hr
 ·
  exact ⟨he, hp⟩
theorem ok_of {l0 : List S61} (h : okB l0) : okT l0 := ⟨h.1, fun x hx => ⟨(h.2 x hx).1, (h.2 x hx).2.1, (h.2 x hx).2.2⟩⟩
theorem head_at (s : ByteArray) (h : 0 < s.size) : s.data.toList.getD 0 0 = s[0] := by
 have : 0 < s.data.toList.length := by rw [ZT.size_data]; exact h
 simp [List.getD, List.getElem?_eq_getElem this]
 rfl
theorem may_size {t : S61} (h : t.f0 = 1) (hm : Lex.mayL (ZT.toTok t) = true) : 0 < t.f1.size := by
 have hk : (ZT.toTok t).k = 1 := by simp only [ZT.toTok]; omega
 unfold Lex.mayL Lex.textL at hm
 rw [if_pos hk] at hm
 simp only [Bool.and_eq_true, Bool.or_eq_true] at hm
 have hne : t.f1.data.toList ≠ [] := by
  intro e
  have e' : (ZT.toTok t).t = [] := e
  rw [e'] at hm
  rcases hm.2 with h | h
  ·
   exact absurd h (by decide)
  ·
   exact absurd h (by decide)
 rw [← ZT.size_data]
 exact List.length_pos_iff.2 hne
theorem parse_plain {x : S61} {r : List Lex.Tok} (h : ¬ ((ZT.toTok x).k = 1 ∧ (ZT.toTok x).t.getD 0 0 = 37)) : Ex.parseR (ZT.toTok x :: r) = Ex.sumR (ZT.toTok x :: r) Ex.x0 := by
 simp only [Ex.parseR]
 rw [if_neg h]
theorem same_put {W : World} {b : Nat} {y : Ex.X} (h : W.heap[b]? = some (.cells (xV y) 38 (0, 0))) :
  ((((W.setCell ⟨b, 0, none⟩ (.string ⟨y.s.toArray⟩)).setCell ⟨b, 1, none⟩ (.string ⟨y.l.toArray⟩)).setCell ⟨b, 2, none⟩ (.int .i64 y.n)).setCell ⟨b, 3, none⟩ (.int .u8 (y.m : Int))).heap[b]? = some (.cells (xV y) 38 (0, 0)) :=
 blk_put (blk_put (blk_put (blk_put (cs' := xV y) h 0 _ rfl) (cs' := xV y) 1 _ rfl) (cs' := xV y) 2 _ rfl) (cs' := xV y) 3 _ rfl
def ParsePost (w : World) (p : Ex.X × Nat × Nat) (e : Ending) (w' : World) : Prop :=
 e = .returned (.tuple #[.agg (xV p.1), .int .i64 (p.2.1 : Int), .int .i64 (p.2.2 : Int)]) ∧ Below w.heap.size w w'
theorem mod_end (l0 : List S61) (a4 : Nat) (r : List Lex.Tok) (y : Ex.X) (RES : Ex.X × Nat × Nat) (he : r = (l0.map ZT.toTok).drop a4)
  (h : RES = match (match r with | [] => none | v :: r4 => if v = Ex.mk 41 then some (r4, y) else none) with | none => (Ex.x0, 0, 160) | some (r, y) => (y, (l0.map ZT.toTok).length - r.length, 0)) :
  (markAt l0 a4 41 = true → RES = (y, a4 + 1, 0) ∨ l0.length < a4) ∧ (markAt l0 a4 41 = false → RES = (Ex.x0, 0, 160)) := by
 subst he
 unfold markAt
 by_cases hlt : a4 < l0.length
 ·
  rw [drop_cons l0 a4 hlt] at h
  rw [at_some l0 a4 hlt]
  simp only at h
  constructor
  ·
   intro hd
   rw [if_pos (of_decide_eq_true hd)] at h
   simp only [List.length_drop, List.length_map] at h
   rw [show l0.length - (l0.length - (a4 + 1)) = a4 + 1 by omega] at h
   exact .inl h
  ·
   intro hd
   rw [if_neg (of_decide_eq_false hd)] at h
   exact h
 ·
  rw [drop_none l0 a4 hlt] at h
  rw [at_none l0 a4 hlt]
  exact ⟨fun hd => absurd hd (by simp), fun _ => h⟩
theorem mod_val {m : Nat} (h : m ≤ 4) : IntKind.u8.wrap (wrap64 (1 + ((m : Int) - 1))) = (m : Int) := by
 have : wrap64 (1 + ((m : Int) - 1)) = (m : Int) := by unfold wrap64; omega
 rw [this, IntKind.wrap_u8]
 omega
set_option maxHeartbeats 8000000 in
set_option maxRecDepth 100000 in
theorem parse_mods (A0 : Option Addr) (c0 : Nat) (l0 : List S61) (a : Nat) (w : World) (t : S61) (ad : Addr) (RES : Ex.X × Nat × Nat) (hr0 : Kd.C k61 w A0 l0.length l0) (ok : okT l0) (hT : Lib.TabIs Tryz.prog w "internal/strconv.uint64pow10" .u64 Lib.pow10Tab) (hD : LexW.LexD w) (hM : ExW.ModsAt w)
  (hlt : a < l0.length) (hv : (!(l0.map ZT.toTok).all Lex.mayL) = false) (j1 : (t.f0 == 1) = true) (e37 : ∀ h : 0 < t.f1.size, ((t.f1[0].toNat : Int) == 37) = true) (hsz : 0 < t.f1.size)
  (hx0 : w.cell? (ad.add (a * 3)) = some (.int .u8 t.f0)) (hx1 : w.cell? ⟨(ad.add (a * 3)).block, (ad.add (a * 3)).off + 1, none⟩ = some (.string t.f1)) (eA : A0 = some ad)
  (hR : RES = match modR l0 a (Ex.modL t.f1.data.toList) with | none => (Ex.x0, 0, 160) | some (r, y) => (y, (l0.map ZT.toTok).length - r.length, 0)) :
  Calls Tryz.prog 81 #[.slice A0 l0.length c0, .int .i64 (a : Int)] w fun e w' => ParsePost w RES e w' := by
 subst eA
 have e37 := e37 hsz
 have HR0 := Aside0.mk hr0
 have OK := Aside0.mk ok
 have HT := Aside0.mk hT
 have HD := Aside0.mk hD
 have HM := Aside0.mk hM
 have hl := ok.1
 have ha : a ≤ l0.length := by omega
 have p0 : (0 : Int) ≤ (a : Int) := by omega
 have q0 : (a : Int) < (l0.length : Int) := by omega
 have d0 : decide ((a : Int) < 0) = false := decide_eq_false (by omega)
 have d1 : decide ((l0.length : Int) < (a : Int)) = false := decide_eq_false (by omega)
 have d2 : decide ((a : Int) < (l0.length : Int)) = true := decide_eq_true q0
 clear hr0 ok hT hD hM
 have h4 := Ex.mod_le t.f1.data.toList
 have hif := index_f t.f1
 obtain ⟨m, hm⟩ : ∃ m, m = Ex.modL t.f1.data.toList := ⟨_, rfl⟩
 rw [← hm] at hR h4 hif
 clear hm
 have mv := mod_val h4
 have HIF := Aside0.mk hif
 have HR := Aside0.mk hR
 clear hif hR
 go_enter Tryz.func81, Tryz.ntmps81
 go_wp2_with (first | ((with_reducible refine gate_dst (N := 4) rfl ?_); refine box_event ?hg (N := 4) ?hd (cs := #[.string (⟨#[]⟩ : ByteArray), .string (⟨#[]⟩ : ByteArray), .int .i64 0, .int .u8 0]) (t := 38) ?hr ?_; (case hd => rfl); (case hg => rfl); (case hr => exact qbd1); intro b hg w1 hbox hb; have HB1 := Aside0.mk hb; have BX1 : Aside0 (w1.heap[b]? = some (.cells (xV Ex.x0) 38 (0, 0))) := ⟨hbox⟩; have GB : Aside0 (w.heap.size ≤ b) := ⟨by rw [hg]; exact Nat.le_refl _⟩; clear hb hbox hg) | (go_at_call 109; have hT1 := Lib.tabBelow_of_tabIs HT.out _ HB1.out; (with_reducible refine (contains_to (some ad) c0 l0 _ false (Kd.C_below HR0.out HB1.out) OK.out hT1 (HD.out.below HB1.out) hv).mono ?_); rintro e w2 ⟨rfl, hb⟩; have HB2 := Aside0.mk (below_step HB1.out hb); have BX2 := Aside0.mk (blk_below BX1.out hb); have zx0 := (blk_cell BX2.out 0); have zx1 := (blk_cell BX2.out 1); have zx2 := (blk_cell BX2.out 2); have zx3 := (blk_cell BX2.out 3); have yx0 := blk_frozen BX2.out 0; have yx1 := blk_frozen BX2.out 1; have yx2 := blk_frozen BX2.out 2; have yx3 := blk_frozen BX2.out 3; simp only [xV, Ex.x0] at zx0 zx1 zx2 zx3; clear hb) | ((with_reducible refine gate_dst (N := 24) rfl ?_); refine box_event ?hg (N := 24) ?hd (cs := #[.slice (some ad) l0.length c0, .int .i64 (a : Int)]) (t := 134) ?hr ?_; (case hd => rfl); (case hg => rfl); (case hr => exact qbd1); intro g hg w3 hbox hb; have PS3 : Aside0 (PS w w3 g b l0 a Ex.x0) := ⟨⟨⟨(some ad), c0, hbox, by rw [hg]; exact below_size HB2.out, HR0.out⟩, blk_below BX2.out hb, GB.out, below_step HB2.out hb⟩⟩; clear hb hbox hg; have hy0 := (PS3.out.bel.cell (World.block_lt_of_cell? w _ hx0)).trans hx0; have hy1 := (PS3.out.bel.cell (World.block_lt_of_cell? w _ hx1)).trans hx1))
 refine start_ (n := 11) (S := fun w' => w'.cell? ⟨(ad.add (a * 3)).block, (ad.add (a * 3)).off + 1, none⟩ = some (.string t.f1)) (ds := [10]) #[false, false, false, false, false, false, false, false, false, false, false] (by kernel_rfl) rfl rfl (hy1) (fun hHeld => ?_)
 refine pure_ (i := 0) (N := some 46) (v := ?_) (a' := ?_) #[true, false, false, false, false, false, false, false, false, false, false] rfl rfl (by kernel_rfl) (fun _ _ _ h => h) (Or.inl ⟨by rfl, ?_⟩) ?_ ?_
 rotate_left
 ·
  intro w'
  go_simp
  with_reducible rfl
 rotate_left
 ·
  simp only [Act.put, List.setIfInBounds_toArray, List.set_cons_zero, List.set_cons_succ, i64_w, i32_w]
  rfl
 refine pure_ (i := 1) (N := some 47) (v := ?_) (a' := ?_) #[true, true, false, false, false, false, false, false, false, false, false] rfl rfl (by kernel_rfl) (fun _ _ _ h => h) (Or.inl ⟨by rfl, ?_⟩) ?_ ?_
 rotate_left
 ·
  intro w'
  go_simp
  with_reducible rfl
 rotate_left
 ·
  simp only [Act.put, List.setIfInBounds_toArray, List.set_cons_zero, List.set_cons_succ, i64_w, i32_w]
  rfl
 refine pure_ (i := 2) (N := some 48) (v := ?_) (a' := ?_) #[true, true, true, false, false, false, false, false, false, false, false] rfl rfl (by kernel_rfl) (fun _ _ _ h => h) (Or.inl ⟨by rfl, ?_⟩) ?_ ?_
 rotate_left
 ·
  intro w'
  go_simp
  with_reducible rfl
 rotate_left
 ·
  simp only [Act.put, List.setIfInBounds_toArray, List.set_cons_zero, List.set_cons_succ, i64_w, i32_w]
  rfl
 refine pure_ (i := 3) (N := some 49) (v := ?_) (a' := ?_) #[true, true, true, true, false, false, false, false, false, false, false] rfl rfl (by kernel_rfl) (fun _ _ _ h => h) (Or.inl ⟨by rfl, ?_⟩) ?_ ?_
 rotate_left
 ·
  intro w'
  go_simp
  with_reducible rfl
 rotate_left
 ·
  simp only [Act.put, List.setIfInBounds_toArray, List.set_cons_zero, List.set_cons_succ, i64_w, i32_w]
  rfl
 refine pure_ (i := 4) (N := some 50) (v := ?_) (a' := ?_) #[true, true, true, true, true, false, false, false, false, false, false] rfl rfl (by kernel_rfl) (fun _ _ _ h => h) (Or.inl ⟨by rfl, ?_⟩) ?_ ?_
 rotate_left
 ·
  intro w'
  go_simp
  with_reducible rfl
 rotate_left
 ·
  simp only [Act.put, List.setIfInBounds_toArray, List.set_cons_zero, List.set_cons_succ, i64_w, i32_w]
  rfl
 refine take_ (i := 5) (N := some 51) (v := ?_) (a' := ?_) #[true, true, true, true, true, true, false, false, false, false, false] rfl rfl (by kernel_rfl) (fun _ _ _ h => h) (Or.inl ⟨by rfl, ?_⟩) hHeld ?_ ?_
 rotate_left
 ·
  intro w' s0
  go_simp
  with_reducible rfl
 rotate_left
 ·
  simp only [Act.put, List.setIfInBounds_toArray, List.set_cons_zero, List.set_cons_succ, i64_w, i32_w]
  rfl
 refine one_ (i := 6) (N := some 52) #[true, true, true, true, true, true, true, false, false, false, false] rfl rfl (by kernel_rfl) (by decide) (fun K hK => ?_)
 refine goes_ Tryz.func111 (by kernel_rfl) rfl #[.slice (some ⟨1, 0, none⟩) 4 4, .string t.f1] (by rfl) rfl rfl (by simp only [List.map_toArray, List.map_cons, List.map_nil]; rfl) ?_
 with_reducible refine (mods_calls t.f1 _ m (HM.out.below (below_drew1 PS3.out.bel)) HIF.out).mono ?_
 rintro e w5 ⟨rfl, ⟨nd, rfl⟩⟩
 refine ⟨_, rfl, ?_⟩
 refine hK.out _ _ (hHeld) (fun hHeld => ?_)
 clear hK K
 refine norm_ (a' := ?_) ?_ ?_
 rotate_left
 ·
  show Act.put _ (some 52) _ = _
  simp only [Act.put, List.setIfInBounds_toArray, List.set_cons_zero, List.set_cons_succ, i64_w, i32_w]
  rfl
 refine pure_ (i := 7) (N := some 53) (v := ?_) (a' := ?_) #[true, true, true, true, true, true, true, true, false, false, false] rfl rfl (by kernel_rfl) (fun _ _ _ h => h) (Or.inl ⟨by rfl, ?_⟩) ?_ ?_
 rotate_left
 ·
  intro w'
  go_simp
  with_reducible rfl
 rotate_left
 ·
  simp only [Act.put, List.setIfInBounds_toArray, List.set_cons_zero, List.set_cons_succ, i64_w, i32_w]
  rfl
 refine pure_ (i := 8) (N := some 54) (v := ?_) (a' := ?_) #[true, true, true, true, true, true, true, true, true, false, false] rfl rfl (by kernel_rfl) (fun _ _ _ h => h) (Or.inl ⟨by rfl, ?_⟩) ?_ ?_
 rotate_left
 ·
  intro w'
  go_simp
  with_reducible rfl
 rotate_left
 ·
  simp only [Act.put, List.setIfInBounds_toArray, List.set_cons_zero, List.set_cons_succ, i64_w, i32_w]
  rfl
 refine pure_ (i := 9) (N := some 55) (v := ?_) (a' := ?_) #[true, true, true, true, true, true, true, true, true, true, false] rfl rfl (by kernel_rfl) (fun _ _ _ h => h) (Or.inl ⟨by rfl, ?_⟩) ?_ ?_
 rotate_left
 ·
  intro w'
  go_simp
  with_reducible rfl
 rotate_left
 ·
  simp only [Act.put, List.setIfInBounds_toArray, List.set_cons_zero, List.set_cons_succ, i64_w, i32_w]
  rfl
 refine last_ (i := 10) (N := none) #[true, true, true, true, true, true, true, true, true, true, true] rfl rfl (by kernel_rfl) (by decide) (fun K hK => ?_)
 have yb3 := blk_frozen PS3.out.x 3
 have zb3 := bc3 PS3.out.x
 refine skip_ (w1 := ?_) (by rfl) rfl ?_ ?_
 rotate_left
 ·
  go_simp
  rfl
 refine hK.out _ _ ?_
 clear hK K
 refine done_ (by kernel_rfl) ?_
 have HP4 : Aside0 (PS w ((w3.drewN (1 + nd)).setCell ⟨b, 3, none⟩ (.int .u8 (m : Int))) g b l0 a { Ex.x0 with m := m }) := ⟨(PS3.out.below (pw_below_drewN (Below.refl _ _) (1 + nd))).setx 3 _ rfl⟩
 obtain ⟨w4, hw4⟩ : ∃ V, V = ((w3.drewN (1 + nd)).setCell ⟨b, 3, none⟩ (.int .u8 (m : Int))) := ⟨_, rfl⟩
 rw [← hw4] at HP4 ⊢
 clear hw4 hHeld zb3 yb3 hy0 hy1 zx0 zx1 zx2 zx3 yx0 yx1 yx2 yx3 hx0 hx1
 have HP5 : Aside0 (PS w (w4.setCell ⟨g, 1, none⟩ (.int .i64 ((a : Int) + 1))) g b l0 (a + 1) { Ex.x0 with m := m }) := ⟨HP4.out.seti (a + 1)⟩
 have gb : g ≠ b := HP4.out.ne
 have gb' := gb.symm
 have hb1 : wrap64 ((a : Int) + 1) = (a : Int) + 1 := by unfold wrap64; omega
 obtain ⟨A5, c5, HG5, hge5, HS5⟩ := HP4.out.i
 have hcz1 := cellS134_1 HG5
 have hfz1 := blk_frozen HG5 1
 clear HG5 hge5 HS5
 have t3 := bc3 HP4.out.x
 have t0 := bc0 HP4.out.x
 have t1 := bc1 HP4.out.x
 have t2 := bc2 HP4.out.x
 have f0 := blk_frozen HP4.out.x 0
 have f1 := blk_frozen HP4.out.x 1
 have f2 := blk_frozen HP4.out.x 2
 have f3 := blk_frozen HP4.out.x 3
 have hR := HR.out
 unfold modR at hR
 clear HR
 by_cases hm0 : m = 0
 ·
  rw [if_pos hm0] at hR
  subst hR
  have dm1 : decide ((0 : Int) < (m : Int)) = false := decide_eq_false (by omega)
  have dm2 : decide (0 < m) = false := decide_eq_false (by omega)
  go_wp2
  refine bodyPost_ret (results_ctt rfl _ _ b 38 (xV Ex.x0) (0, 0) _ rfl (zero_put HP5.out.x) Tryz.underlying38 rfl (by kernel_rfl)) rfl ?_
  exact ⟨rfl, zero_below HP5.out.bel GB.out⟩
 rw [if_neg hm0] at hR
 have dm1 : decide ((0 : Int) < (m : Int)) = true := decide_eq_true (by omega)
 have dm2 : decide (0 < m) = true := decide_eq_true (by omega)
 cases h40 : markAt l0 (a + 1) 40 with
 | false =>
  rw [h40, if_neg (by simp)] at hR
  subst hR
  go_wp2_with (go_at_call 112; (with_reducible refine (mark_to w _ g b l0 (a + 1) _ 40 false OK.out HP5.out h40).mono ?_); rintro e w6 ⟨rfl, hp⟩; have P6 := Aside0.mk hp; have zw0 := (blk_cell P6.out.x 0); have zw1 := (blk_cell P6.out.x 1); have zw2 := (blk_cell P6.out.x 2); have zw3 := (blk_cell P6.out.x 3); have yw0 := blk_frozen P6.out.x 0; have yw1 := blk_frozen P6.out.x 1; have yw2 := blk_frozen P6.out.x 2; have yw3 := blk_frozen P6.out.x 3; simp only [xV] at zw0 zw1 zw2 zw3; clear hp)
  refine bodyPost_ret (results_ctt rfl _ _ b 38 (xV Ex.x0) (0, 0) _ rfl (zero_put P6.out.x) Tryz.underlying38 rfl (by kernel_rfl)) rfl ?_
  exact ⟨rfl, zero_below P6.out.bel GB.out⟩
 | true =>
  rw [h40, if_pos rfl] at hR
  have ha2 : a + 2 ≤ l0.length := by
   have : a + 1 < l0.length := by
    by_cases h : a + 1 < l0.length
    ·
     exact h
    ·
     unfold markAt at h40
     rw [at_none l0 (a + 1) h] at h40
     cases h40
   omega
  cases hs : Ex.sumR ((l0.map ZT.toTok).drop (a + 2)) { Ex.x0 with m := m } with
  | none =>
   rw [hs] at hR
   subst hR
   go_wp2_with (first | (go_at_call 112; (with_reducible refine (mark_to w _ g b l0 (a + 1) _ 40 true OK.out HP5.out h40).mono ?_); rintro e w6 ⟨rfl, hp⟩; have P6 : Aside0 (PS w w6 g b l0 (a + 2) { Ex.x0 with m := m }) := ⟨hp⟩; clear hp) | (go_at_call 113; (with_reducible refine (sum_none w _ g b l0 (a + 2) _ ha2 OK.out HT.out HD.out P6.out hs).mono ?_); rintro e w7 ⟨rfl, a4, y, hp⟩; have P7 := Aside0.mk hp; have zw0 := (blk_cell P7.out.x 0); have zw1 := (blk_cell P7.out.x 1); have zw2 := (blk_cell P7.out.x 2); have zw3 := (blk_cell P7.out.x 3); have yw0 := blk_frozen P7.out.x 0; have yw1 := blk_frozen P7.out.x 1; have yw2 := blk_frozen P7.out.x 2; have yw3 := blk_frozen P7.out.x 3; simp only [xV] at zw0 zw1 zw2 zw3; clear hp))
   refine bodyPost_ret (results_ctt rfl _ _ b 38 (xV Ex.x0) (0, 0) _ rfl (zero_put P7.out.x) Tryz.underlying38 rfl (by kernel_rfl)) rfl ?_
   exact ⟨rfl, zero_below P7.out.bel GB.out⟩
  | some ry =>
   obtain ⟨r, y⟩ := ry
   rw [hs] at hR
   simp only at hR
   have HR := Aside0.mk hR
   clear hR
   obtain ⟨A4, hA4⟩ : ∃ n, n = l0.length - r.length := ⟨_, rfl⟩
   cases h41 : markAt l0 A4 41 with
   | false =>
    go_wp2_with (first | (go_at_call 112; (with_reducible refine (mark_to w _ g b l0 (a + 1) _ 40 true OK.out HP5.out h40).mono ?_); rintro e w6 ⟨rfl, hp⟩; have P6 : Aside0 (PS w w6 g b l0 (a + 2) { Ex.x0 with m := m }) := ⟨hp⟩; clear hp) | (go_at_call 113; (with_reducible refine (sum_some2 w _ g b l0 (a + 2) _ r y A4 hA4 ha2 OK.out HT.out HD.out P6.out hs).mono ?_); rintro e w7 ⟨rfl, hr4, hp⟩; have P7 := Aside0.mk hp; clear hp) | (go_at_call 112; (with_reducible refine (mark_to w _ g b l0 A4 _ 41 false OK.out P7.out h41).mono ?_); rintro e w8 ⟨rfl, hp⟩; have P8 : Aside0 (PS w w8 g b l0 A4 y) := ⟨hp⟩; have zw0 := (blk_cell P8.out.x 0); have zw1 := (blk_cell P8.out.x 1); have zw2 := (blk_cell P8.out.x 2); have zw3 := (blk_cell P8.out.x 3); have yw0 := blk_frozen P8.out.x 0; have yw1 := blk_frozen P8.out.x 1; have yw2 := blk_frozen P8.out.x 2; have yw3 := blk_frozen P8.out.x 3; simp only [xV] at zw0 zw1 zw2 zw3; clear hp))
    have hres := (mod_end l0 A4 r y RES hr4 HR.out).2 h41
    subst hres
    refine bodyPost_ret (results_ctt rfl _ _ b 38 (xV Ex.x0) (0, 0) _ rfl (zero_put P8.out.x) Tryz.underlying38 rfl (by kernel_rfl)) rfl ?_
    exact ⟨rfl, zero_below P8.out.bel GB.out⟩
   | true =>
    go_wp2_with (first | (go_at_call 112; (with_reducible refine (mark_to w _ g b l0 (a + 1) _ 40 true OK.out HP5.out h40).mono ?_); rintro e w6 ⟨rfl, hp⟩; have P6 : Aside0 (PS w w6 g b l0 (a + 2) { Ex.x0 with m := m }) := ⟨hp⟩; clear hp) | (go_at_call 113; (with_reducible refine (sum_some2 w _ g b l0 (a + 2) _ r y A4 hA4 ha2 OK.out HT.out HD.out P6.out hs).mono ?_); rintro e w7 ⟨rfl, hr4, hp⟩; have P7 := Aside0.mk hp; clear hp) | (go_at_call 112; (with_reducible refine (mark_to w _ g b l0 A4 _ 41 true OK.out P7.out h41).mono ?_); rintro e w8 ⟨rfl, hp⟩; have P8 : Aside0 (PS w w8 g b l0 (A4 + 1) y) := ⟨hp⟩; have zw0 := (blk_cell P8.out.x 0); have zw1 := (blk_cell P8.out.x 1); have zw2 := (blk_cell P8.out.x 2); have zw3 := (blk_cell P8.out.x 3); have yw0 := blk_frozen P8.out.x 0; have yw1 := blk_frozen P8.out.x 1; have yw2 := blk_frozen P8.out.x 2; have yw3 := blk_frozen P8.out.x 3; simp only [xV] at zw0 zw1 zw2 zw3; clear hp))
    have hres := ((mod_end l0 A4 r y RES hr4 HR.out).1 h41).resolve_right (by omega)
    obtain ⟨a4, e4⟩ : ∃ a4, a4 = A4 + 1 := ⟨_, rfl⟩
    rw [← e4] at P8 hres
    have P4 := P8
    obtain ⟨A9, c9, HG9, hge9, HS9⟩ := P4.out.i
    have v4 := cellS134_1 HG9
    have v0 := bc0 P4.out.x
    have v1 := bc1 P4.out.x
    have v2 := bc2 P4.out.x
    have v3 := bc3 P4.out.x
    have HRES := Aside0.mk hres
    clear zw0 zw1 zw2 zw3 hres hr4 hs h41 h40 HR HIF
    clear e4 hA4
    refine start_ (n := 8) (S := fun w' => w'.cell? ⟨b, 0, none⟩ = some (.string ⟨y.s.toArray⟩) ∧ w'.cell? ⟨b, 1, none⟩ = some (.string ⟨y.l.toArray⟩) ∧ w'.cell? ⟨b, 2, none⟩ = some (.int .i64 y.n) ∧ w'.cell? ⟨b, 3, none⟩ = some (.int .u8 (y.m : Int)) ∧ w'.cell? ⟨g, 1, none⟩ = some (.int .i64 (a4 : Int))) (ds := [5]) #[false, false, false, false, false, false, false, false] (by kernel_rfl) rfl rfl ⟨v0, v1, v2, v3, v4⟩ (fun hHeld => ?_)
    refine pure_ (i := 1) (N := some 84) (v := ?_) (a' := ?_) #[false, true, false, false, false, false, false, false] rfl rfl (by kernel_rfl) (fun _ _ _ h => h) (Or.inl ⟨by rfl, ?_⟩) ?_ ?_
    rotate_left
    ·
     intro w'
     go_simp
     with_reducible rfl
    rotate_left
    ·
     simp only [Act.put, List.setIfInBounds_toArray, List.set_cons_zero, List.set_cons_succ, i64_w, i32_w]
     rfl
    refine pure_ (i := 2) (N := some 85) (v := ?_) (a' := ?_) #[false, true, true, false, false, false, false, false] rfl rfl (by kernel_rfl) (fun _ _ _ h => h) (Or.inl ⟨by rfl, ?_⟩) ?_ ?_
    rotate_left
    ·
     intro w'
     go_simp
     with_reducible rfl
    rotate_left
    ·
     simp only [Act.put, List.setIfInBounds_toArray, List.set_cons_zero, List.set_cons_succ, i64_w, i32_w]
     rfl
    refine pure_ (i := 3) (N := some 86) (v := ?_) (a' := ?_) #[false, true, true, true, false, false, false, false] rfl rfl (by kernel_rfl) (fun _ _ _ h => h) (Or.inl ⟨by rfl, ?_⟩) ?_ ?_
    rotate_left
    ·
     intro w'
     go_simp
     with_reducible rfl
    rotate_left
    ·
     simp only [Act.put, List.setIfInBounds_toArray, List.set_cons_zero, List.set_cons_succ, i64_w, i32_w]
     rfl
    refine take_ (i := 0) (N := some 83) (v := ?_) (a' := ?_) #[true, true, true, true, false, false, false, false] rfl rfl (by kernel_rfl) (fun _ _ _ h => h) (Or.inl ⟨by rfl, ?_⟩) hHeld ?_ ?_
    rotate_left
    ·
     rintro w' ⟨s0, s1, s2, s3, s4⟩
     go_simp
     with_reducible rfl
    rotate_left
    ·
     simp only [Act.put, List.setIfInBounds_toArray, List.set_cons_zero, List.set_cons_succ, i64_w, i32_w]
     rfl
    refine take_ (i := 4) (N := some 87) (v := ?_) (a' := ?_) #[true, true, true, true, true, false, false, false] rfl rfl (by kernel_rfl) (fun _ _ _ h => h) (Or.inl ⟨by rfl, ?_⟩) hHeld ?_ ?_
    rotate_left
    ·
     rintro w' ⟨s0, s1, s2, s3, s4⟩
     go_simp
     with_reducible rfl
    rotate_left
    ·
     simp only [Act.put, List.setIfInBounds_toArray, List.set_cons_zero, List.set_cons_succ, i64_w, i32_w]
     rfl
    refine last_ (i := 5) (N := none) #[true, true, true, true, true, true, false, false] rfl rfl (by kernel_rfl) (by decide) (fun K hK => ?_)
    refine skip_ (w1 := ?_) (by rfl) rfl ?_ ?_
    rotate_left
    ·
     go_simp
     rfl
    refine hK.out _ _ ?_
    clear hK K
    refine pure_ (i := 6) (N := some 5) (v := ?_) (a' := ?_) #[true, true, true, true, true, true, true, false] rfl rfl (by kernel_rfl) (fun _ _ _ h => h) (Or.inl ⟨by rfl, ?_⟩) ?_ ?_
    rotate_left
    ·
     intro w'
     go_simp
     with_reducible rfl
    rotate_left
    ·
     simp only [Act.put, List.setIfInBounds_toArray, List.set_cons_zero, List.set_cons_succ, i64_w, i32_w]
     rfl
    refine pure_ (i := 7) (N := some 6) (v := ?_) (a' := ?_) #[true, true, true, true, true, true, true, true] rfl rfl (by kernel_rfl) (fun _ _ _ h => h) (Or.inl ⟨by rfl, ?_⟩) ?_ ?_
    rotate_left
    ·
     intro w'
     go_simp
     with_reducible rfl
    rotate_left
    ·
     simp only [Act.put, List.setIfInBounds_toArray, List.set_cons_zero, List.set_cons_succ, i64_w, i32_w]
     rfl
    refine done_ (by kernel_rfl) ?_
    go_wp2
    refine bodyPost_ret (results_ctt rfl _ _ b 38 (xV y) (0, 0) _ rfl (same_put (blk_drew P4.out.x)) Tryz.underlying38 rfl (by kernel_rfl)) rfl ?_
    have hres := HRES.out
    subst hres
    exact ⟨rfl, below_set (below_set (below_set (below_set (below_drew1 P4.out.bel) GB.out) GB.out) GB.out) GB.out⟩
set_option maxHeartbeats 8000000 in
set_option maxRecDepth 100000 in
theorem parse_walk (A0 : Option Addr) (c0 : Nat) (l0 : List S61) (a1 : Int) (w : World) (hr0 : Kd.C k61 w A0 l0.length l0) (ok : okT l0) (hT : Lib.TabIs Tryz.prog w "internal/strconv.uint64pow10" .u64 Lib.pow10Tab) (hD : LexW.LexD w) (hM : ExW.ModsAt w) :
  Calls Tryz.prog 81 #[.slice A0 l0.length c0, .int .i64 a1] w fun e w' => ParsePost w (Ex.parseL (l0.map ZT.toTok) a1) e w' := by
 have HR0 := Aside0.mk hr0
 have OK := Aside0.mk ok
 have HT := Aside0.mk hT
 have HD := Aside0.mk hD
 have HM := Aside0.mk hM
 have hl := ok.1
 clear hr0 ok hT hD hM
 obtain ⟨RES, hR⟩ : ∃ r, r = Ex.parseL (l0.map ZT.toTok) a1 := ⟨_, rfl⟩
 rw [← hR]
 unfold Ex.parseL at hR
 cases hall : (l0.map ZT.toTok).all Lex.mayL with
 | false =>
  have hv : (!(l0.map ZT.toTok).all Lex.mayL) = true := by rw [hall]; rfl
  rw [hall, if_pos rfl] at hR
  subst hR
  go_enter Tryz.func81, Tryz.ntmps81
  go_wp2_with (first | ((with_reducible refine gate_dst (N := 4) rfl ?_); refine box_event ?hg (N := 4) ?hd (cs := #[.string (⟨#[]⟩ : ByteArray), .string (⟨#[]⟩ : ByteArray), .int .i64 0, .int .u8 0]) (t := 38) ?hr ?_; (case hd => rfl); (case hg => rfl); (case hr => exact qbd1); intro b hg w1 hbox hb; have HB1 := Aside0.mk hb; have BX1 : Aside0 (w1.heap[b]? = some (.cells (xV Ex.x0) 38 (0, 0))) := ⟨hbox⟩; have GB : Aside0 (w.heap.size ≤ b) := ⟨by rw [hg]; exact Nat.le_refl _⟩; clear hb hbox hg) | (go_at_call 109; have hT1 := Lib.tabBelow_of_tabIs HT.out _ HB1.out; (with_reducible refine (contains_to A0 c0 l0 _ true (Kd.C_below HR0.out HB1.out) OK.out hT1 (HD.out.below HB1.out) hv).mono ?_); rintro e w2 ⟨rfl, hb⟩; have HB2 := Aside0.mk (below_step HB1.out hb); have BX2 := Aside0.mk (blk_below BX1.out hb); have zx0 := (blk_cell BX2.out 0); have zx1 := (blk_cell BX2.out 1); have zx2 := (blk_cell BX2.out 2); have zx3 := (blk_cell BX2.out 3); have yx0 := blk_frozen BX2.out 0; have yx1 := blk_frozen BX2.out 1; have yx2 := blk_frozen BX2.out 2; have yx3 := blk_frozen BX2.out 3; simp only [xV, Ex.x0] at zx0 zx1 zx2 zx3; clear hb))
  refine bodyPost_ret (results_ctt rfl _ _ b 38 (xV Ex.x0) (0, 0) _ rfl (zero_put BX2.out) Tryz.underlying38 rfl (by kernel_rfl)) rfl ?_
  exact ⟨rfl, zero_below HB2.out GB.out⟩
 | true =>
  have hv : (!(l0.map ZT.toTok).all Lex.mayL) = false := by rw [hall]; rfl
  rw [hall, if_neg (by simp)] at hR
  by_cases hout : a1 < 0 ∨ ((l0.map ZT.toTok).length : Int) < a1
  ·
   rw [if_pos hout, ] at hR
   subst hR
   rw [List.length_map] at hout
   by_cases hneg : a1 < 0
   ·
    have d0 : decide (a1 < 0) = true := decide_eq_true hneg
    clear hout
    go_enter Tryz.func81, Tryz.ntmps81
    go_wp2_with (first | ((with_reducible refine gate_dst (N := 4) rfl ?_); refine box_event ?hg (N := 4) ?hd (cs := #[.string (⟨#[]⟩ : ByteArray), .string (⟨#[]⟩ : ByteArray), .int .i64 0, .int .u8 0]) (t := 38) ?hr ?_; (case hd => rfl); (case hg => rfl); (case hr => exact qbd1); intro b hg w1 hbox hb; have HB1 := Aside0.mk hb; have BX1 : Aside0 (w1.heap[b]? = some (.cells (xV Ex.x0) 38 (0, 0))) := ⟨hbox⟩; have GB : Aside0 (w.heap.size ≤ b) := ⟨by rw [hg]; exact Nat.le_refl _⟩; clear hb hbox hg) | (go_at_call 109; have hT1 := Lib.tabBelow_of_tabIs HT.out _ HB1.out; (with_reducible refine (contains_to A0 c0 l0 _ false (Kd.C_below HR0.out HB1.out) OK.out hT1 (HD.out.below HB1.out) hv).mono ?_); rintro e w2 ⟨rfl, hb⟩; have HB2 := Aside0.mk (below_step HB1.out hb); have BX2 := Aside0.mk (blk_below BX1.out hb); have zx0 := (blk_cell BX2.out 0); have zx1 := (blk_cell BX2.out 1); have zx2 := (blk_cell BX2.out 2); have zx3 := (blk_cell BX2.out 3); have yx0 := blk_frozen BX2.out 0; have yx1 := blk_frozen BX2.out 1; have yx2 := blk_frozen BX2.out 2; have yx3 := blk_frozen BX2.out 3; simp only [xV, Ex.x0] at zx0 zx1 zx2 zx3; clear hb))
    refine bodyPost_ret (results_ctt rfl _ _ b 38 (xV Ex.x0) (0, 0) _ rfl (zero_put BX2.out) Tryz.underlying38 rfl (by kernel_rfl)) rfl ?_
    exact ⟨rfl, zero_below HB2.out GB.out⟩
   ·
    have d0 : decide (a1 < 0) = false := decide_eq_false hneg
    have d1 : decide ((l0.length : Int) < a1) = true := decide_eq_true (hout.resolve_left hneg)
    clear hout
    go_enter Tryz.func81, Tryz.ntmps81
    go_wp2_with (first | ((with_reducible refine gate_dst (N := 4) rfl ?_); refine box_event ?hg (N := 4) ?hd (cs := #[.string (⟨#[]⟩ : ByteArray), .string (⟨#[]⟩ : ByteArray), .int .i64 0, .int .u8 0]) (t := 38) ?hr ?_; (case hd => rfl); (case hg => rfl); (case hr => exact qbd1); intro b hg w1 hbox hb; have HB1 := Aside0.mk hb; have BX1 : Aside0 (w1.heap[b]? = some (.cells (xV Ex.x0) 38 (0, 0))) := ⟨hbox⟩; have GB : Aside0 (w.heap.size ≤ b) := ⟨by rw [hg]; exact Nat.le_refl _⟩; clear hb hbox hg) | (go_at_call 109; have hT1 := Lib.tabBelow_of_tabIs HT.out _ HB1.out; (with_reducible refine (contains_to A0 c0 l0 _ false (Kd.C_below HR0.out HB1.out) OK.out hT1 (HD.out.below HB1.out) hv).mono ?_); rintro e w2 ⟨rfl, hb⟩; have HB2 := Aside0.mk (below_step HB1.out hb); have BX2 := Aside0.mk (blk_below BX1.out hb); have zx0 := (blk_cell BX2.out 0); have zx1 := (blk_cell BX2.out 1); have zx2 := (blk_cell BX2.out 2); have zx3 := (blk_cell BX2.out 3); have yx0 := blk_frozen BX2.out 0; have yx1 := blk_frozen BX2.out 1; have yx2 := blk_frozen BX2.out 2; have yx3 := blk_frozen BX2.out 3; simp only [xV, Ex.x0] at zx0 zx1 zx2 zx3; clear hb))
    refine bodyPost_ret (results_ctt rfl _ _ b 38 (xV Ex.x0) (0, 0) _ rfl (zero_put BX2.out) Tryz.underlying38 rfl (by kernel_rfl)) rfl ?_
    exact ⟨rfl, zero_below HB2.out GB.out⟩
  ·
   rw [if_neg hout] at hR
   rw [List.length_map] at hout
   obtain ⟨a, rfl⟩ : ∃ a : Nat, a1 = a := ⟨a1.toNat, by omega⟩
   have ha : a ≤ l0.length := by omega
   rw [Int.toNat_natCast] at hR
   have d0 : decide ((a : Int) < 0) = false := decide_eq_false (by omega)
   have d1 : decide ((l0.length : Int) < (a : Int)) = false := decide_eq_false (by omega)
   clear hout
   by_cases hlt : a < l0.length
   ·
    have p0 : (0 : Int) ≤ (a : Int) := by omega
    have q0 : (a : Int) < (l0.length : Int) := by omega
    have d2 : decide ((a : Int) < (l0.length : Int)) = true := decide_eq_true q0
    obtain ⟨ad, e0, hx0, hx1, hx2⟩ := at_T61 HR0.out (a : Int) p0 q0
    subst e0
    simp only [Int.toNat_natCast] at hx0 hx1 hx2
    have TOK := (OK.out.2 _ (List.getElem_mem hlt))
    have hcons := drop_cons l0 a hlt
    have hmay : Lex.mayL (ZT.toTok l0[a]) = true := List.all_eq_true.1 hall _ (List.mem_map.2 ⟨_, List.getElem_mem hlt, rfl⟩)
    rw [← rd41 l0 a hlt] at TOK hcons hmay
    obtain ⟨t, ht⟩ : ∃ t, rd_T61 l0 (a : Int) = t := ⟨_, rfl⟩
    rw [ht] at TOK hcons hmay hx0 hx1 hx2
    by_cases k1 : t.f0 = 1
    ·
     have j1 : (t.f0 == 1) = true := beq_iff_eq.2 k1
     have hsz := may_size k1 hmay
     by_cases h37 : t.f1[0] = 37
     ·
      have e37 : ((t.f1[0].toNat : Int) == 37) = true := LexW.u8_is h37 rfl
      have hpm : Ex.parseR ((l0.map ZT.toTok).drop a) = modR l0 a (Ex.modL t.f1.data.toList) := by
       rw [parse_mod l0 a hlt (by rw [← rd41 l0 a hlt, ht]; exact ⟨by simp only [ZT.toTok]; omega, by show t.f1.data.toList.getD 0 0 = 37; rw [head_at t.f1 hsz]; exact h37⟩), ← rd41 l0 a hlt, ht]
       rfl
      rw [hpm] at hR
      clear hpm hcons h37 hmay TOK ht
      exact (parse_mods (some ad) c0 l0 a w t ad RES HR0.out OK.out HT.out HD.out HM.out hlt hv j1 (fun _ => e37) hsz hx0 hx1 rfl hR)
     ·
      have e37 : ((t.f1[0].toNat : Int) == 37) = false := LexW.u8_not h37 rfl
      have hpl := parse_plain (x := t) (r := (l0.map ZT.toTok).drop (a + 1)) (fun h => h37 (by rw [← head_at t.f1 hsz]; exact h.2))
      rw [← hcons] at hpl
      rw [hpl] at hR
      clear hpl hcons h37 hmay TOK
      cases hs : Ex.sumR ((l0.map ZT.toTok).drop a) Ex.x0 with
      | none =>
       rw [hs] at hR
       subst hR
       go_enter Tryz.func81, Tryz.ntmps81
       go_wp2_with (first | ((with_reducible refine gate_dst (N := 4) rfl ?_); refine box_event ?hg (N := 4) ?hd (cs := #[.string (⟨#[]⟩ : ByteArray), .string (⟨#[]⟩ : ByteArray), .int .i64 0, .int .u8 0]) (t := 38) ?hr ?_; (case hd => rfl); (case hg => rfl); (case hr => exact qbd1); intro b hg w1 hbox hb; have HB1 := Aside0.mk hb; have BX1 : Aside0 (w1.heap[b]? = some (.cells (xV Ex.x0) 38 (0, 0))) := ⟨hbox⟩; have GB : Aside0 (w.heap.size ≤ b) := ⟨by rw [hg]; exact Nat.le_refl _⟩; clear hb hbox hg) | (go_at_call 109; have hT1 := Lib.tabBelow_of_tabIs HT.out _ HB1.out; (with_reducible refine (contains_to (some ad) c0 l0 _ false (Kd.C_below HR0.out HB1.out) OK.out hT1 (HD.out.below HB1.out) hv).mono ?_); rintro e w2 ⟨rfl, hb⟩; have HB2 := Aside0.mk (below_step HB1.out hb); have BX2 := Aside0.mk (blk_below BX1.out hb); have zx0 := (blk_cell BX2.out 0); have zx1 := (blk_cell BX2.out 1); have zx2 := (blk_cell BX2.out 2); have zx3 := (blk_cell BX2.out 3); have yx0 := blk_frozen BX2.out 0; have yx1 := blk_frozen BX2.out 1; have yx2 := blk_frozen BX2.out 2; have yx3 := blk_frozen BX2.out 3; simp only [xV, Ex.x0] at zx0 zx1 zx2 zx3; clear hb) | ((with_reducible refine gate_dst (N := 24) rfl ?_); refine box_event ?hg (N := 24) ?hd (cs := #[.slice (some ad) l0.length c0, .int .i64 (a : Int)]) (t := 134) ?hr ?_; (case hd => rfl); (case hg => rfl); (case hr => exact qbd1); intro g hg w3 hbox hb; have PS3 : Aside0 (PS w w3 g b l0 a Ex.x0) := ⟨⟨⟨(some ad), c0, hbox, by rw [hg]; exact below_size HB2.out, HR0.out⟩, blk_below BX2.out hb, GB.out, below_step HB2.out hb⟩⟩; clear hb hbox hg; have hy0 := (PS3.out.bel.cell (World.block_lt_of_cell? w _ hx0)).trans hx0; have hy1 := (PS3.out.bel.cell (World.block_lt_of_cell? w _ hx1)).trans hx1) | (go_at_call 113; (with_reducible refine (sum_none w _ g b l0 a Ex.x0 ha OK.out HT.out HD.out PS3.out hs).mono ?_); rintro e w4 ⟨rfl, a4, y, hp⟩; have P4 := Aside0.mk hp; have zw0 := (blk_cell P4.out.x 0); have zw1 := (blk_cell P4.out.x 1); have zw2 := (blk_cell P4.out.x 2); have zw3 := (blk_cell P4.out.x 3); have yw0 := blk_frozen P4.out.x 0; have yw1 := blk_frozen P4.out.x 1; have yw2 := blk_frozen P4.out.x 2; have yw3 := blk_frozen P4.out.x 3; simp only [xV] at zw0 zw1 zw2 zw3; clear hp))
       refine bodyPost_ret (results_ctt rfl _ _ b 38 (xV Ex.x0) (0, 0) _ rfl (zero_put P4.out.x) Tryz.underlying38 rfl (by kernel_rfl)) rfl ?_
       exact ⟨rfl, zero_below P4.out.bel GB.out⟩
      | some ry =>
       obtain ⟨r, y⟩ := ry
       rw [hs] at hR
       subst hR
       go_enter Tryz.func81, Tryz.ntmps81
       go_wp2_with (first | ((with_reducible refine gate_dst (N := 4) rfl ?_); refine box_event ?hg (N := 4) ?hd (cs := #[.string (⟨#[]⟩ : ByteArray), .string (⟨#[]⟩ : ByteArray), .int .i64 0, .int .u8 0]) (t := 38) ?hr ?_; (case hd => rfl); (case hg => rfl); (case hr => exact qbd1); intro b hg w1 hbox hb; have HB1 := Aside0.mk hb; have BX1 : Aside0 (w1.heap[b]? = some (.cells (xV Ex.x0) 38 (0, 0))) := ⟨hbox⟩; have GB : Aside0 (w.heap.size ≤ b) := ⟨by rw [hg]; exact Nat.le_refl _⟩; clear hb hbox hg) | (go_at_call 109; have hT1 := Lib.tabBelow_of_tabIs HT.out _ HB1.out; (with_reducible refine (contains_to (some ad) c0 l0 _ false (Kd.C_below HR0.out HB1.out) OK.out hT1 (HD.out.below HB1.out) hv).mono ?_); rintro e w2 ⟨rfl, hb⟩; have HB2 := Aside0.mk (below_step HB1.out hb); have BX2 := Aside0.mk (blk_below BX1.out hb); have zx0 := (blk_cell BX2.out 0); have zx1 := (blk_cell BX2.out 1); have zx2 := (blk_cell BX2.out 2); have zx3 := (blk_cell BX2.out 3); have yx0 := blk_frozen BX2.out 0; have yx1 := blk_frozen BX2.out 1; have yx2 := blk_frozen BX2.out 2; have yx3 := blk_frozen BX2.out 3; simp only [xV, Ex.x0] at zx0 zx1 zx2 zx3; clear hb) | ((with_reducible refine gate_dst (N := 24) rfl ?_); refine box_event ?hg (N := 24) ?hd (cs := #[.slice (some ad) l0.length c0, .int .i64 (a : Int)]) (t := 134) ?hr ?_; (case hd => rfl); (case hg => rfl); (case hr => exact qbd1); intro g hg w3 hbox hb; have PS3 : Aside0 (PS w w3 g b l0 a Ex.x0) := ⟨⟨⟨(some ad), c0, hbox, by rw [hg]; exact below_size HB2.out, HR0.out⟩, blk_below BX2.out hb, GB.out, below_step HB2.out hb⟩⟩; clear hb hbox hg; have hy0 := (PS3.out.bel.cell (World.block_lt_of_cell? w _ hx0)).trans hx0; have hy1 := (PS3.out.bel.cell (World.block_lt_of_cell? w _ hx1)).trans hx1) | (go_at_call 113; (with_reducible refine (sum_some w _ g b l0 a Ex.x0 r y ha OK.out HT.out HD.out PS3.out hs).mono ?_); rintro e w4 ⟨rfl, a4, ha4, hr4, hp⟩; have P4 := Aside0.mk hp; have zw0 := (blk_cell P4.out.x 0); have zw1 := (blk_cell P4.out.x 1); have zw2 := (blk_cell P4.out.x 2); have zw3 := (blk_cell P4.out.x 3); have yw0 := blk_frozen P4.out.x 0; have yw1 := blk_frozen P4.out.x 1; have yw2 := blk_frozen P4.out.x 2; have yw3 := blk_frozen P4.out.x 3; simp only [xV] at zw0 zw1 zw2 zw3; clear hp))
       obtain ⟨A4, c4, HG4, hge4, HS4⟩ := P4.out.i
       have v4 := cellS134_1 HG4
       have v0 := bc0 P4.out.x
       have v1 := bc1 P4.out.x
       have v2 := bc2 P4.out.x
       have v3 := bc3 P4.out.x
       clear zw0 zw1 zw2 zw3
       refine start_ (n := 8) (S := fun w' => w'.cell? ⟨b, 0, none⟩ = some (.string ⟨y.s.toArray⟩) ∧ w'.cell? ⟨b, 1, none⟩ = some (.string ⟨y.l.toArray⟩) ∧ w'.cell? ⟨b, 2, none⟩ = some (.int .i64 y.n) ∧ w'.cell? ⟨b, 3, none⟩ = some (.int .u8 (y.m : Int)) ∧ w'.cell? ⟨g, 1, none⟩ = some (.int .i64 (a4 : Int))) (ds := [5]) #[false, false, false, false, false, false, false, false] (by kernel_rfl) rfl rfl ⟨v0, v1, v2, v3, v4⟩ (fun hHeld => ?_)
       refine pure_ (i := 1) (N := some 84) (v := ?_) (a' := ?_) #[false, true, false, false, false, false, false, false] rfl rfl (by kernel_rfl) (fun _ _ _ h => h) (Or.inl ⟨by rfl, ?_⟩) ?_ ?_
       rotate_left
       ·
        intro w'
        go_simp
        with_reducible rfl
       rotate_left
       ·
        simp only [Act.put, List.setIfInBounds_toArray, List.set_cons_zero, List.set_cons_succ, i64_w, i32_w]
        rfl
       refine pure_ (i := 2) (N := some 85) (v := ?_) (a' := ?_) #[false, true, true, false, false, false, false, false] rfl rfl (by kernel_rfl) (fun _ _ _ h => h) (Or.inl ⟨by rfl, ?_⟩) ?_ ?_
       rotate_left
       ·
        intro w'
        go_simp
        with_reducible rfl
       rotate_left
       ·
        simp only [Act.put, List.setIfInBounds_toArray, List.set_cons_zero, List.set_cons_succ, i64_w, i32_w]
        rfl
       refine pure_ (i := 3) (N := some 86) (v := ?_) (a' := ?_) #[false, true, true, true, false, false, false, false] rfl rfl (by kernel_rfl) (fun _ _ _ h => h) (Or.inl ⟨by rfl, ?_⟩) ?_ ?_
       rotate_left
       ·
        intro w'
        go_simp
        with_reducible rfl
       rotate_left
       ·
        simp only [Act.put, List.setIfInBounds_toArray, List.set_cons_zero, List.set_cons_succ, i64_w, i32_w]
        rfl
       refine take_ (i := 0) (N := some 83) (v := ?_) (a' := ?_) #[true, true, true, true, false, false, false, false] rfl rfl (by kernel_rfl) (fun _ _ _ h => h) (Or.inl ⟨by rfl, ?_⟩) hHeld ?_ ?_
       rotate_left
       ·
        rintro w' ⟨s0, s1, s2, s3, s4⟩
        go_simp
        with_reducible rfl
       rotate_left
       ·
        simp only [Act.put, List.setIfInBounds_toArray, List.set_cons_zero, List.set_cons_succ, i64_w, i32_w]
        rfl
       refine take_ (i := 4) (N := some 87) (v := ?_) (a' := ?_) #[true, true, true, true, true, false, false, false] rfl rfl (by kernel_rfl) (fun _ _ _ h => h) (Or.inl ⟨by rfl, ?_⟩) hHeld ?_ ?_
       rotate_left
       ·
        rintro w' ⟨s0, s1, s2, s3, s4⟩
        go_simp
        with_reducible rfl
       rotate_left
       ·
        simp only [Act.put, List.setIfInBounds_toArray, List.set_cons_zero, List.set_cons_succ, i64_w, i32_w]
        rfl
       refine last_ (i := 5) (N := none) #[true, true, true, true, true, true, false, false] rfl rfl (by kernel_rfl) (by decide) (fun K hK => ?_)
       refine skip_ (w1 := ?_) (by rfl) rfl ?_ ?_
       rotate_left
       ·
        go_simp
        rfl
       refine hK.out _ _ ?_
       clear hK K
       refine pure_ (i := 6) (N := some 5) (v := ?_) (a' := ?_) #[true, true, true, true, true, true, true, false] rfl rfl (by kernel_rfl) (fun _ _ _ h => h) (Or.inl ⟨by rfl, ?_⟩) ?_ ?_
       rotate_left
       ·
        intro w'
        go_simp
        with_reducible rfl
       rotate_left
       ·
        simp only [Act.put, List.setIfInBounds_toArray, List.set_cons_zero, List.set_cons_succ, i64_w, i32_w]
        rfl
       refine pure_ (i := 7) (N := some 6) (v := ?_) (a' := ?_) #[true, true, true, true, true, true, true, true] rfl rfl (by kernel_rfl) (fun _ _ _ h => h) (Or.inl ⟨by rfl, ?_⟩) ?_ ?_
       rotate_left
       ·
        intro w'
        go_simp
        with_reducible rfl
       rotate_left
       ·
        simp only [Act.put, List.setIfInBounds_toArray, List.set_cons_zero, List.set_cons_succ, i64_w, i32_w]
        rfl
       refine done_ (by kernel_rfl) ?_
       go_wp2
       refine bodyPost_ret (results_ctt rfl _ _ b 38 (xV y) (0, 0) _ rfl (same_put (blk_drew P4.out.x)) Tryz.underlying38 rfl (by kernel_rfl)) rfl ?_
       subst hr4
       refine ⟨?_, below_set (below_set (below_set (below_set (below_drew1 P4.out.bel) GB.out) GB.out) GB.out) GB.out⟩
       simp only [List.length_drop, List.length_map]
       rw [show l0.length - (l0.length - a4) = a4 by omega]
       rfl
    ·
     have j1 : (t.f0 == 1) = false := beq_eq_false_iff_ne.2 k1
     have hpl := parse_plain (x := t) (r := (l0.map ZT.toTok).drop (a + 1)) (fun h => k1 (by have := h.1; simp only [ZT.toTok] at this; have := TOK.1; omega))
     rw [← hcons] at hpl
     rw [hpl] at hR
     clear hpl hcons hmay TOK
     cases hs : Ex.sumR ((l0.map ZT.toTok).drop a) Ex.x0 with
     | none =>
      rw [hs] at hR
      subst hR
      go_enter Tryz.func81, Tryz.ntmps81
      go_wp2_with (first | ((with_reducible refine gate_dst (N := 4) rfl ?_); refine box_event ?hg (N := 4) ?hd (cs := #[.string (⟨#[]⟩ : ByteArray), .string (⟨#[]⟩ : ByteArray), .int .i64 0, .int .u8 0]) (t := 38) ?hr ?_; (case hd => rfl); (case hg => rfl); (case hr => exact qbd1); intro b hg w1 hbox hb; have HB1 := Aside0.mk hb; have BX1 : Aside0 (w1.heap[b]? = some (.cells (xV Ex.x0) 38 (0, 0))) := ⟨hbox⟩; have GB : Aside0 (w.heap.size ≤ b) := ⟨by rw [hg]; exact Nat.le_refl _⟩; clear hb hbox hg) | (go_at_call 109; have hT1 := Lib.tabBelow_of_tabIs HT.out _ HB1.out; (with_reducible refine (contains_to (some ad) c0 l0 _ false (Kd.C_below HR0.out HB1.out) OK.out hT1 (HD.out.below HB1.out) hv).mono ?_); rintro e w2 ⟨rfl, hb⟩; have HB2 := Aside0.mk (below_step HB1.out hb); have BX2 := Aside0.mk (blk_below BX1.out hb); have zx0 := (blk_cell BX2.out 0); have zx1 := (blk_cell BX2.out 1); have zx2 := (blk_cell BX2.out 2); have zx3 := (blk_cell BX2.out 3); have yx0 := blk_frozen BX2.out 0; have yx1 := blk_frozen BX2.out 1; have yx2 := blk_frozen BX2.out 2; have yx3 := blk_frozen BX2.out 3; simp only [xV, Ex.x0] at zx0 zx1 zx2 zx3; clear hb) | ((with_reducible refine gate_dst (N := 24) rfl ?_); refine box_event ?hg (N := 24) ?hd (cs := #[.slice (some ad) l0.length c0, .int .i64 (a : Int)]) (t := 134) ?hr ?_; (case hd => rfl); (case hg => rfl); (case hr => exact qbd1); intro g hg w3 hbox hb; have PS3 : Aside0 (PS w w3 g b l0 a Ex.x0) := ⟨⟨⟨(some ad), c0, hbox, by rw [hg]; exact below_size HB2.out, HR0.out⟩, blk_below BX2.out hb, GB.out, below_step HB2.out hb⟩⟩; clear hb hbox hg; have hy0 := (PS3.out.bel.cell (World.block_lt_of_cell? w _ hx0)).trans hx0; have hy1 := (PS3.out.bel.cell (World.block_lt_of_cell? w _ hx1)).trans hx1) | (go_at_call 113; (with_reducible refine (sum_none w _ g b l0 a Ex.x0 ha OK.out HT.out HD.out PS3.out hs).mono ?_); rintro e w4 ⟨rfl, a4, y, hp⟩; have P4 := Aside0.mk hp; have zw0 := (blk_cell P4.out.x 0); have zw1 := (blk_cell P4.out.x 1); have zw2 := (blk_cell P4.out.x 2); have zw3 := (blk_cell P4.out.x 3); have yw0 := blk_frozen P4.out.x 0; have yw1 := blk_frozen P4.out.x 1; have yw2 := blk_frozen P4.out.x 2; have yw3 := blk_frozen P4.out.x 3; simp only [xV] at zw0 zw1 zw2 zw3; clear hp))
      refine bodyPost_ret (results_ctt rfl _ _ b 38 (xV Ex.x0) (0, 0) _ rfl (zero_put P4.out.x) Tryz.underlying38 rfl (by kernel_rfl)) rfl ?_
      exact ⟨rfl, zero_below P4.out.bel GB.out⟩
     | some ry =>
      obtain ⟨r, y⟩ := ry
      rw [hs] at hR
      subst hR
      go_enter Tryz.func81, Tryz.ntmps81
      go_wp2_with (first | ((with_reducible refine gate_dst (N := 4) rfl ?_); refine box_event ?hg (N := 4) ?hd (cs := #[.string (⟨#[]⟩ : ByteArray), .string (⟨#[]⟩ : ByteArray), .int .i64 0, .int .u8 0]) (t := 38) ?hr ?_; (case hd => rfl); (case hg => rfl); (case hr => exact qbd1); intro b hg w1 hbox hb; have HB1 := Aside0.mk hb; have BX1 : Aside0 (w1.heap[b]? = some (.cells (xV Ex.x0) 38 (0, 0))) := ⟨hbox⟩; have GB : Aside0 (w.heap.size ≤ b) := ⟨by rw [hg]; exact Nat.le_refl _⟩; clear hb hbox hg) | (go_at_call 109; have hT1 := Lib.tabBelow_of_tabIs HT.out _ HB1.out; (with_reducible refine (contains_to (some ad) c0 l0 _ false (Kd.C_below HR0.out HB1.out) OK.out hT1 (HD.out.below HB1.out) hv).mono ?_); rintro e w2 ⟨rfl, hb⟩; have HB2 := Aside0.mk (below_step HB1.out hb); have BX2 := Aside0.mk (blk_below BX1.out hb); have zx0 := (blk_cell BX2.out 0); have zx1 := (blk_cell BX2.out 1); have zx2 := (blk_cell BX2.out 2); have zx3 := (blk_cell BX2.out 3); have yx0 := blk_frozen BX2.out 0; have yx1 := blk_frozen BX2.out 1; have yx2 := blk_frozen BX2.out 2; have yx3 := blk_frozen BX2.out 3; simp only [xV, Ex.x0] at zx0 zx1 zx2 zx3; clear hb) | ((with_reducible refine gate_dst (N := 24) rfl ?_); refine box_event ?hg (N := 24) ?hd (cs := #[.slice (some ad) l0.length c0, .int .i64 (a : Int)]) (t := 134) ?hr ?_; (case hd => rfl); (case hg => rfl); (case hr => exact qbd1); intro g hg w3 hbox hb; have PS3 : Aside0 (PS w w3 g b l0 a Ex.x0) := ⟨⟨⟨(some ad), c0, hbox, by rw [hg]; exact below_size HB2.out, HR0.out⟩, blk_below BX2.out hb, GB.out, below_step HB2.out hb⟩⟩; clear hb hbox hg; have hy0 := (PS3.out.bel.cell (World.block_lt_of_cell? w _ hx0)).trans hx0; have hy1 := (PS3.out.bel.cell (World.block_lt_of_cell? w _ hx1)).trans hx1) | (go_at_call 113; (with_reducible refine (sum_some w _ g b l0 a Ex.x0 r y ha OK.out HT.out HD.out PS3.out hs).mono ?_); rintro e w4 ⟨rfl, a4, ha4, hr4, hp⟩; have P4 := Aside0.mk hp; have zw0 := (blk_cell P4.out.x 0); have zw1 := (blk_cell P4.out.x 1); have zw2 := (blk_cell P4.out.x 2); have zw3 := (blk_cell P4.out.x 3); have yw0 := blk_frozen P4.out.x 0; have yw1 := blk_frozen P4.out.x 1; have yw2 := blk_frozen P4.out.x 2; have yw3 := blk_frozen P4.out.x 3; simp only [xV] at zw0 zw1 zw2 zw3; clear hp))
      obtain ⟨A4, c4, HG4, hge4, HS4⟩ := P4.out.i
      have v4 := cellS134_1 HG4
      have v0 := bc0 P4.out.x
      have v1 := bc1 P4.out.x
      have v2 := bc2 P4.out.x
      have v3 := bc3 P4.out.x
      clear zw0 zw1 zw2 zw3
      refine start_ (n := 8) (S := fun w' => w'.cell? ⟨b, 0, none⟩ = some (.string ⟨y.s.toArray⟩) ∧ w'.cell? ⟨b, 1, none⟩ = some (.string ⟨y.l.toArray⟩) ∧ w'.cell? ⟨b, 2, none⟩ = some (.int .i64 y.n) ∧ w'.cell? ⟨b, 3, none⟩ = some (.int .u8 (y.m : Int)) ∧ w'.cell? ⟨g, 1, none⟩ = some (.int .i64 (a4 : Int))) (ds := [5]) #[false, false, false, false, false, false, false, false] (by kernel_rfl) rfl rfl ⟨v0, v1, v2, v3, v4⟩ (fun hHeld => ?_)
      refine pure_ (i := 1) (N := some 84) (v := ?_) (a' := ?_) #[false, true, false, false, false, false, false, false] rfl rfl (by kernel_rfl) (fun _ _ _ h => h) (Or.inl ⟨by rfl, ?_⟩) ?_ ?_
      rotate_left
      ·
       intro w'
       go_simp
       with_reducible rfl
      rotate_left
      ·
       simp only [Act.put, List.setIfInBounds_toArray, List.set_cons_zero, List.set_cons_succ, i64_w, i32_w]
       rfl
      refine pure_ (i := 2) (N := some 85) (v := ?_) (a' := ?_) #[false, true, true, false, false, false, false, false] rfl rfl (by kernel_rfl) (fun _ _ _ h => h) (Or.inl ⟨by rfl, ?_⟩) ?_ ?_
      rotate_left
      ·
       intro w'
       go_simp
       with_reducible rfl
      rotate_left
      ·
       simp only [Act.put, List.setIfInBounds_toArray, List.set_cons_zero, List.set_cons_succ, i64_w, i32_w]
       rfl
      refine pure_ (i := 3) (N := some 86) (v := ?_) (a' := ?_) #[false, true, true, true, false, false, false, false] rfl rfl (by kernel_rfl) (fun _ _ _ h => h) (Or.inl ⟨by rfl, ?_⟩) ?_ ?_
      rotate_left
      ·
       intro w'
       go_simp
       with_reducible rfl
      rotate_left
      ·
       simp only [Act.put, List.setIfInBounds_toArray, List.set_cons_zero, List.set_cons_succ, i64_w, i32_w]
       rfl
      refine take_ (i := 0) (N := some 83) (v := ?_) (a' := ?_) #[true, true, true, true, false, false, false, false] rfl rfl (by kernel_rfl) (fun _ _ _ h => h) (Or.inl ⟨by rfl, ?_⟩) hHeld ?_ ?_
      rotate_left
      ·
       rintro w' ⟨s0, s1, s2, s3, s4⟩
       go_simp
       with_reducible rfl
      rotate_left
      ·
       simp only [Act.put, List.setIfInBounds_toArray, List.set_cons_zero, List.set_cons_succ, i64_w, i32_w]
       rfl
      refine take_ (i := 4) (N := some 87) (v := ?_) (a' := ?_) #[true, true, true, true, true, false, false, false] rfl rfl (by kernel_rfl) (fun _ _ _ h => h) (Or.inl ⟨by rfl, ?_⟩) hHeld ?_ ?_
      rotate_left
      ·
       rintro w' ⟨s0, s1, s2, s3, s4⟩
       go_simp
       with_reducible rfl
      rotate_left
      ·
       simp only [Act.put, List.setIfInBounds_toArray, List.set_cons_zero, List.set_cons_succ, i64_w, i32_w]
       rfl
      refine last_ (i := 5) (N := none) #[true, true, true, true, true, true, false, false] rfl rfl (by kernel_rfl) (by decide) (fun K hK => ?_)
      refine skip_ (w1 := ?_) (by rfl) rfl ?_ ?_
      rotate_left
      ·
       go_simp
       rfl
      refine hK.out _ _ ?_
      clear hK K
      refine pure_ (i := 6) (N := some 5) (v := ?_) (a' := ?_) #[true, true, true, true, true, true, true, false] rfl rfl (by kernel_rfl) (fun _ _ _ h => h) (Or.inl ⟨by rfl, ?_⟩) ?_ ?_
      rotate_left
      ·
       intro w'
       go_simp
       with_reducible rfl
      rotate_left
      ·
       simp only [Act.put, List.setIfInBounds_toArray, List.set_cons_zero, List.set_cons_succ, i64_w, i32_w]
       rfl
      refine pure_ (i := 7) (N := some 6) (v := ?_) (a' := ?_) #[true, true, true, true, true, true, true, true] rfl rfl (by kernel_rfl) (fun _ _ _ h => h) (Or.inl ⟨by rfl, ?_⟩) ?_ ?_
      rotate_left
      ·
       intro w'
       go_simp
       with_reducible rfl
      rotate_left
      ·
       simp only [Act.put, List.setIfInBounds_toArray, List.set_cons_zero, List.set_cons_succ, i64_w, i32_w]
       rfl
      refine done_ (by kernel_rfl) ?_
      go_wp2
      refine bodyPost_ret (results_ctt rfl _ _ b 38 (xV y) (0, 0) _ rfl (same_put (blk_drew P4.out.x)) Tryz.underlying38 rfl (by kernel_rfl)) rfl ?_
      subst hr4
      refine ⟨?_, below_set (below_set (below_set (below_set (below_drew1 P4.out.bel) GB.out) GB.out) GB.out) GB.out⟩
      simp only [List.length_drop, List.length_map]
      rw [show l0.length - (l0.length - a4) = a4 by omega]
      rfl
   ·
    have d2 : decide ((a : Int) < (l0.length : Int)) = false := decide_eq_false (by omega)
    rw [drop_none l0 a hlt, show Ex.parseR [] = Ex.sumR [] Ex.x0 from rfl, ← drop_none l0 a hlt] at hR
    cases hs : Ex.sumR ((l0.map ZT.toTok).drop a) Ex.x0 with
    | none =>
     rw [hs] at hR
     subst hR
     go_enter Tryz.func81, Tryz.ntmps81
     go_wp2_with (first | ((with_reducible refine gate_dst (N := 4) rfl ?_); refine box_event ?hg (N := 4) ?hd (cs := #[.string (⟨#[]⟩ : ByteArray), .string (⟨#[]⟩ : ByteArray), .int .i64 0, .int .u8 0]) (t := 38) ?hr ?_; (case hd => rfl); (case hg => rfl); (case hr => exact qbd1); intro b hg w1 hbox hb; have HB1 := Aside0.mk hb; have BX1 : Aside0 (w1.heap[b]? = some (.cells (xV Ex.x0) 38 (0, 0))) := ⟨hbox⟩; have GB : Aside0 (w.heap.size ≤ b) := ⟨by rw [hg]; exact Nat.le_refl _⟩; clear hb hbox hg) | (go_at_call 109; have hT1 := Lib.tabBelow_of_tabIs HT.out _ HB1.out; (with_reducible refine (contains_to A0 c0 l0 _ false (Kd.C_below HR0.out HB1.out) OK.out hT1 (HD.out.below HB1.out) hv).mono ?_); rintro e w2 ⟨rfl, hb⟩; have HB2 := Aside0.mk (below_step HB1.out hb); have BX2 := Aside0.mk (blk_below BX1.out hb); have zx0 := (blk_cell BX2.out 0); have zx1 := (blk_cell BX2.out 1); have zx2 := (blk_cell BX2.out 2); have zx3 := (blk_cell BX2.out 3); have yx0 := blk_frozen BX2.out 0; have yx1 := blk_frozen BX2.out 1; have yx2 := blk_frozen BX2.out 2; have yx3 := blk_frozen BX2.out 3; simp only [xV, Ex.x0] at zx0 zx1 zx2 zx3; clear hb) | ((with_reducible refine gate_dst (N := 24) rfl ?_); refine box_event ?hg (N := 24) ?hd (cs := #[.slice A0 l0.length c0, .int .i64 (a : Int)]) (t := 134) ?hr ?_; (case hd => rfl); (case hg => rfl); (case hr => exact qbd1); intro g hg w3 hbox hb; have PS3 : Aside0 (PS w w3 g b l0 a Ex.x0) := ⟨⟨⟨A0, c0, hbox, by rw [hg]; exact below_size HB2.out, HR0.out⟩, blk_below BX2.out hb, GB.out, below_step HB2.out hb⟩⟩; clear hb hbox hg) | (go_at_call 113; (with_reducible refine (sum_none w _ g b l0 a Ex.x0 ha OK.out HT.out HD.out PS3.out hs).mono ?_); rintro e w4 ⟨rfl, a4, y, hp⟩; have P4 := Aside0.mk hp; have zw0 := (blk_cell P4.out.x 0); have zw1 := (blk_cell P4.out.x 1); have zw2 := (blk_cell P4.out.x 2); have zw3 := (blk_cell P4.out.x 3); have yw0 := blk_frozen P4.out.x 0; have yw1 := blk_frozen P4.out.x 1; have yw2 := blk_frozen P4.out.x 2; have yw3 := blk_frozen P4.out.x 3; simp only [xV] at zw0 zw1 zw2 zw3; clear hp))
     refine bodyPost_ret (results_ctt rfl _ _ b 38 (xV Ex.x0) (0, 0) _ rfl (zero_put P4.out.x) Tryz.underlying38 rfl (by kernel_rfl)) rfl ?_
     exact ⟨rfl, zero_below P4.out.bel GB.out⟩
    | some ry =>
     obtain ⟨r, y⟩ := ry
     rw [hs] at hR
     subst hR
     go_enter Tryz.func81, Tryz.ntmps81
     go_wp2_with (first | ((with_reducible refine gate_dst (N := 4) rfl ?_); refine box_event ?hg (N := 4) ?hd (cs := #[.string (⟨#[]⟩ : ByteArray), .string (⟨#[]⟩ : ByteArray), .int .i64 0, .int .u8 0]) (t := 38) ?hr ?_; (case hd => rfl); (case hg => rfl); (case hr => exact qbd1); intro b hg w1 hbox hb; have HB1 := Aside0.mk hb; have BX1 : Aside0 (w1.heap[b]? = some (.cells (xV Ex.x0) 38 (0, 0))) := ⟨hbox⟩; have GB : Aside0 (w.heap.size ≤ b) := ⟨by rw [hg]; exact Nat.le_refl _⟩; clear hb hbox hg) | (go_at_call 109; have hT1 := Lib.tabBelow_of_tabIs HT.out _ HB1.out; (with_reducible refine (contains_to A0 c0 l0 _ false (Kd.C_below HR0.out HB1.out) OK.out hT1 (HD.out.below HB1.out) hv).mono ?_); rintro e w2 ⟨rfl, hb⟩; have HB2 := Aside0.mk (below_step HB1.out hb); have BX2 := Aside0.mk (blk_below BX1.out hb); have zx0 := (blk_cell BX2.out 0); have zx1 := (blk_cell BX2.out 1); have zx2 := (blk_cell BX2.out 2); have zx3 := (blk_cell BX2.out 3); have yx0 := blk_frozen BX2.out 0; have yx1 := blk_frozen BX2.out 1; have yx2 := blk_frozen BX2.out 2; have yx3 := blk_frozen BX2.out 3; simp only [xV, Ex.x0] at zx0 zx1 zx2 zx3; clear hb) | ((with_reducible refine gate_dst (N := 24) rfl ?_); refine box_event ?hg (N := 24) ?hd (cs := #[.slice A0 l0.length c0, .int .i64 (a : Int)]) (t := 134) ?hr ?_; (case hd => rfl); (case hg => rfl); (case hr => exact qbd1); intro g hg w3 hbox hb; have PS3 : Aside0 (PS w w3 g b l0 a Ex.x0) := ⟨⟨⟨A0, c0, hbox, by rw [hg]; exact below_size HB2.out, HR0.out⟩, blk_below BX2.out hb, GB.out, below_step HB2.out hb⟩⟩; clear hb hbox hg) | (go_at_call 113; (with_reducible refine (sum_some w _ g b l0 a Ex.x0 r y ha OK.out HT.out HD.out PS3.out hs).mono ?_); rintro e w4 ⟨rfl, a4, ha4, hr4, hp⟩; have P4 := Aside0.mk hp; have zw0 := (blk_cell P4.out.x 0); have zw1 := (blk_cell P4.out.x 1); have zw2 := (blk_cell P4.out.x 2); have zw3 := (blk_cell P4.out.x 3); have yw0 := blk_frozen P4.out.x 0; have yw1 := blk_frozen P4.out.x 1; have yw2 := blk_frozen P4.out.x 2; have yw3 := blk_frozen P4.out.x 3; simp only [xV] at zw0 zw1 zw2 zw3; clear hp))
     obtain ⟨A4, c4, HG4, hge4, HS4⟩ := P4.out.i
     have v4 := cellS134_1 HG4
     have v0 := bc0 P4.out.x
     have v1 := bc1 P4.out.x
     have v2 := bc2 P4.out.x
     have v3 := bc3 P4.out.x
     clear zw0 zw1 zw2 zw3
     refine start_ (n := 8) (S := fun w' => w'.cell? ⟨b, 0, none⟩ = some (.string ⟨y.s.toArray⟩) ∧ w'.cell? ⟨b, 1, none⟩ = some (.string ⟨y.l.toArray⟩) ∧ w'.cell? ⟨b, 2, none⟩ = some (.int .i64 y.n) ∧ w'.cell? ⟨b, 3, none⟩ = some (.int .u8 (y.m : Int)) ∧ w'.cell? ⟨g, 1, none⟩ = some (.int .i64 (a4 : Int))) (ds := [5]) #[false, false, false, false, false, false, false, false] (by kernel_rfl) rfl rfl ⟨v0, v1, v2, v3, v4⟩ (fun hHeld => ?_)
     refine pure_ (i := 1) (N := some 84) (v := ?_) (a' := ?_) #[false, true, false, false, false, false, false, false] rfl rfl (by kernel_rfl) (fun _ _ _ h => h) (Or.inl ⟨by rfl, ?_⟩) ?_ ?_
     rotate_left
     ·
      intro w'
      go_simp
      with_reducible rfl
     rotate_left
     ·
      simp only [Act.put, List.setIfInBounds_toArray, List.set_cons_zero, List.set_cons_succ, i64_w, i32_w]
      rfl
     refine pure_ (i := 2) (N := some 85) (v := ?_) (a' := ?_) #[false, true, true, false, false, false, false, false] rfl rfl (by kernel_rfl) (fun _ _ _ h => h) (Or.inl ⟨by rfl, ?_⟩) ?_ ?_
     rotate_left
     ·
      intro w'
      go_simp
      with_reducible rfl
     rotate_left
     ·
      simp only [Act.put, List.setIfInBounds_toArray, List.set_cons_zero, List.set_cons_succ, i64_w, i32_w]
      rfl
     refine pure_ (i := 3) (N := some 86) (v := ?_) (a' := ?_) #[false, true, true, true, false, false, false, false] rfl rfl (by kernel_rfl) (fun _ _ _ h => h) (Or.inl ⟨by rfl, ?_⟩) ?_ ?_
     rotate_left
     ·
      intro w'
      go_simp
      with_reducible rfl
     rotate_left
     ·
      simp only [Act.put, List.setIfInBounds_toArray, List.set_cons_zero, List.set_cons_succ, i64_w, i32_w]
      rfl
     refine take_ (i := 0) (N := some 83) (v := ?_) (a' := ?_) #[true, true, true, true, false, false, false, false] rfl rfl (by kernel_rfl) (fun _ _ _ h => h) (Or.inl ⟨by rfl, ?_⟩) hHeld ?_ ?_
     rotate_left
     ·
      rintro w' ⟨s0, s1, s2, s3, s4⟩
      go_simp
      with_reducible rfl
     rotate_left
     ·
      simp only [Act.put, List.setIfInBounds_toArray, List.set_cons_zero, List.set_cons_succ, i64_w, i32_w]
      rfl
     refine take_ (i := 4) (N := some 87) (v := ?_) (a' := ?_) #[true, true, true, true, true, false, false, false] rfl rfl (by kernel_rfl) (fun _ _ _ h => h) (Or.inl ⟨by rfl, ?_⟩) hHeld ?_ ?_
     rotate_left
     ·
      rintro w' ⟨s0, s1, s2, s3, s4⟩
      go_simp
      with_reducible rfl
     rotate_left
     ·
      simp only [Act.put, List.setIfInBounds_toArray, List.set_cons_zero, List.set_cons_succ, i64_w, i32_w]
      rfl
     refine last_ (i := 5) (N := none) #[true, true, true, true, true, true, false, false] rfl rfl (by kernel_rfl) (by decide) (fun K hK => ?_)
     refine skip_ (w1 := ?_) (by rfl) rfl ?_ ?_
     rotate_left
     ·
      go_simp
      rfl
     refine hK.out _ _ ?_
     clear hK K
     refine pure_ (i := 6) (N := some 5) (v := ?_) (a' := ?_) #[true, true, true, true, true, true, true, false] rfl rfl (by kernel_rfl) (fun _ _ _ h => h) (Or.inl ⟨by rfl, ?_⟩) ?_ ?_
     rotate_left
     ·
      intro w'
      go_simp
      with_reducible rfl
     rotate_left
     ·
      simp only [Act.put, List.setIfInBounds_toArray, List.set_cons_zero, List.set_cons_succ, i64_w, i32_w]
      rfl
     refine pure_ (i := 7) (N := some 6) (v := ?_) (a' := ?_) #[true, true, true, true, true, true, true, true] rfl rfl (by kernel_rfl) (fun _ _ _ h => h) (Or.inl ⟨by rfl, ?_⟩) ?_ ?_
     rotate_left
     ·
      intro w'
      go_simp
      with_reducible rfl
     rotate_left
     ·
      simp only [Act.put, List.setIfInBounds_toArray, List.set_cons_zero, List.set_cons_succ, i64_w, i32_w]
      rfl
     refine done_ (by kernel_rfl) ?_
     go_wp2
     refine bodyPost_ret (results_ctt rfl _ _ b 38 (xV y) (0, 0) _ rfl (same_put (blk_drew P4.out.x)) Tryz.underlying38 rfl (by kernel_rfl)) rfl ?_
     subst hr4
     refine ⟨?_, below_set (below_set (below_set (below_set (below_drew1 P4.out.bel) GB.out) GB.out) GB.out) GB.out⟩
     simp only [List.length_drop, List.length_map]
     rw [show l0.length - (l0.length - a4) = a4 by omega]
     rfl
theorem expr_Parse.calls (A0 : Option Addr) (c0 : Nat) (l0 : List S61) (a1 : Int) (r1 r2 : ByteArray) (r3 r4 r5 r6 : Int) (w : World) (hr0 : Kd.C k61 w A0 l0.length l0) (hc0 : l0.length ≤ c0) (hT : Lib.TabIs Tryz.prog w "internal/strconv.uint64pow10" .u64 Lib.pow10Tab) (hD : LexW.LexD w) (hM : ExW.ModsAt w) (h : expr_Parse.f l0 a1 = some (r1, r2, r3, r4, r5, r6)) :
  Calls Tryz.prog 81 #[.slice A0 l0.length c0, .int .i64 a1] w fun e w' => e = .returned (.tuple #[.agg #[.string r1, .string r2, .int .i64 r3, .int .u8 r4], .int .i64 r5, .int .i64 r6]) ∧ Below w.heap.size w w' := by
 unfold expr_Parse.f at h
 by_cases c : okB l0
 ·
  rw [if_pos c] at h
  simp only [Option.some.injEq, Prod.mk.injEq] at h
  obtain ⟨rfl, rfl, rfl, rfl, rfl, rfl⟩ := h
  refine (parse_walk A0 c0 l0 a1 w hr0 (ok_of c) hT hD hM).mono ?_
  rintro e w' ⟨rfl, hb⟩
  exact ⟨rfl, hb⟩
 ·
  rw [if_neg c] at h
  cases h
end

end Go.Proofs.YtbfndlfemhidaaaGreatDoor.P
