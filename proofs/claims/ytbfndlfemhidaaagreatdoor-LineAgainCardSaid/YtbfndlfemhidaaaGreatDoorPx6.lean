/- Texts of this seat in one (Px6), what nothing speaks of left out: by pack.py, a program of this session. -/
import Derived.Test.YtbfndlfemhidaaaGreatDoorPx0
import Derived.Test.YtbfndlfemhidaaaGreatDoorPx1
import Derived.Test.YtbfndlfemhidaaaGreatDoorPx3
import Derived.Test.YtbfndlfemhidaaaGreatDoorPx4
import Derived.Test.YtbfndlfemhidaaaGreatDoorPx5
namespace Go.Proofs.YtbfndlfemhidaaaGreatDoor.P
open Go.RowKit Go.Proofs.YtbfndlfemhidaaaGreatDoor.LexP Go.Proofs.YtbfndlfemhidaaaGreatDoorW.PrintWords Go.Proofs.YtbfndlfemhidaaaGreatDoorW.PrintLast Go.Proofs.YtbfndlfemhidaaaGreatDoorW.PrintMore
theorem qay2 {P : Prop} (h : P := by first | (go_simp; done) | (go_simp; rfl)) : P := h
theorem qay1 {P : Prop} (h : P := by simp only [List.map_toArray, List.map_cons, List.map_nil]; rfl) : P := h
theorem qay0 {P : Prop} (h : P := by exact Reps.c3 (show Kd.M k61 _ _ _ (⟨x1, x2, x3⟩ : S61) [.int .u8 x1, .string x2, .int .i64 x3] from k61_mkM _ _ _ (⟨x1, x2, x3⟩ : S61)) (Reps.c3 (show Kd.M k61 _ _ _ (⟨y1, y2, y3⟩ : S61) [.int .u8 y1, .string y2, .int .i64 y3] from k61_mkM _ _ _ (⟨y1, y2, y3⟩ : S61)) (Reps.c3 (show Kd.M k61 _ _ _ (⟨u1, u2, u3⟩ : S61) [.int .u8 u1, .string u2, .int .i64 u3] from k61_mkM _ _ _ (⟨u1, u2, u3⟩ : S61)) (Reps.none _ _)))) : P := h
attribute [local go_sem] max2_int min2_int max_two min_two max_three min_three max_four min_four   -- for this text's walks alone
set_option linter.unusedVariables false
set_option linter.unusedSimpArgs false

attribute [local go_sem high] eqA40
def line_told.j0 : Nat → ByteArray → Int → List (S61) → Bool → Int → Int → ByteArray → ByteArray → Int → Int → ByteArray → Option ((List (S61)) × Bool)
 | 0, _, _, _, _, _, _, _, _, _, _, _ => none
 | k + 1, x4, x5, x6, x8, x171000, x171001, x171002, x171003, x171004, x171005, x171006 => if x171000 = 4 then ((some (([(⟨3, x171006, 0⟩ : S61)] : List (S61)) : List (S61))).bind fun y179 => (if (x171001 == 0 && ((x171002.toList == ([] : List UInt8) && (x171003.toList == ([] : List UInt8) && (x171004 == 0 && (x171005 == 0)))))) = true then ((lex_Check.f k 3 x171006 0).bind fun t182 => (some (y179, (t182 == 0)))) else (some (y179, false)))) else (if x171000 = 1 then ((line_word.f x4).bind fun bt183 => ((some (([(⟨bt183.1, bt183.2.1, bt183.2.2⟩ : S61)] : List (S61)) : List (S61))).bind fun y186 => (if ((x171002.toList == ([] : List UInt8) && (x171003.toList == ([] : List UInt8) && (x171004 == 0 && (x171005 == 0)))) && (x171006.toList == ([] : List UInt8))) = true then (some (y186, (x5 == 0))) else (some (y186, false))))) else (if x171000 = 2 then (if (x171001 == 0 && (x171006.toList == ([] : List UInt8))) = true then (some (x6, x8)) else (some (x6, false))) else (if x171000 = 3 then ((line_mark.f (⟨#[40]⟩ : ByteArray)).bind fun bt189 => ((line_word.f x4).bind fun bt192 => ((line_mark.f (⟨#[41]⟩ : ByteArray)).bind fun bt195 => ((some (([(⟨bt189.1, bt189.2.1, bt189.2.2⟩ : S61), (⟨bt192.1, bt192.2.1, bt192.2.2⟩ : S61), (⟨bt195.1, bt195.2.1, bt195.2.2⟩ : S61)] : List (S61)) : List (S61))).bind fun y198 => (if x6.length + y198.length < 4398046511104 then ((some (x6 ++ y198 : List (S61))).bind fun y201 => (if (x171006.toList == ([] : List UInt8)) = true then (if x8 = true then (some (y201, (x5 == 0))) else (some (y201, false))) else (some (y201, false)))) else (none)))))) else (some (([] : List (S61)), false)))))
def line_told.f (k : Nat) (a0_0 : Int) (a0_1 : Int) (a0_2 : ByteArray) (a0_3 : ByteArray) (a0_4 : Int) (a0_5 : Int) (a0_6 : ByteArray) : Option ((List (S61)) × Bool) := (line_Called.f a0_1).bind fun bt171 => ((expr_Tokens.f a0_2 a0_3 a0_4 a0_5).bind fun bt173 => (if bt173.2 = 0 then ((line_sum.f a0_2 a0_3 a0_4 a0_5).bind fun t177 => (line_told.j0 k bt171.1 bt171.2 bt173.1 t177 a0_0 a0_1 a0_2 a0_3 a0_4 a0_5 a0_6)) else (line_told.j0 k bt171.1 bt171.2 bt173.1 false a0_0 a0_1 a0_2 a0_3 a0_4 a0_5 a0_6)))
def line_told.B7 : List Nat := [0, 1, 0, 0, 8, 0, 32, 120, 252, 508, 1020, 2044, 4092, 8188, 4095, 32767]
theorem told_S {W : World} {b t : Nat} {v0 v1 v2 v3 v4 v5 v6 : Value} (h : W.heap[b]? = some (.cells #[v0, v1, v2, v3, v4, v5, v6] t (0, 0))) : W.cell? ⟨b, 0, none⟩ = some v0 ∧ W.cell? ⟨b, 1, none⟩ = some v1 ∧ W.cell? ⟨b, 2, none⟩ = some v2 ∧ W.cell? ⟨b, 3, none⟩ = some v3 ∧ W.cell? ⟨b, 4, none⟩ = some v4 ∧ W.cell? ⟨b, 5, none⟩ = some v5 ∧ W.cell? ⟨b, 6, none⟩ = some v6 := ⟨(blk_cell h 0).trans rfl, (blk_cell h 1).trans rfl, (blk_cell h 2).trans rfl, (blk_cell h 3).trans rfl, (blk_cell h 4).trans rfl, (blk_cell h 5).trans rfl, (blk_cell h 6).trans rfl⟩
theorem told_S3 {W : World} {b t : Nat} {v0 v1 v2 : Value} (h : W.heap[b]? = some (.cells #[v0, v1, v2] t (0, 0))) : W.cell? ⟨b, 0, none⟩ = some v0 ∧ W.cell? ⟨b, 1, none⟩ = some v1 ∧ W.cell? ⟨b, 2, none⟩ = some v2 := ⟨(blk_cell h 0).trans rfl, (blk_cell h 1).trans rfl, (blk_cell h 2).trans rfl⟩
theorem lit_row {α : Type} (d : Kd α) {W : World} {base e : Nat} {xs : List α} {inner : List Value} (hrep : Reps (d.M W base (fun _ => True)) d.sz xs inner) (hbase : base ≤ W.heap.size) (hm : xs.length ≤ 9223372036854775807) :
  d.R e (W.alloc (.cells inner.toArray e)) base (fun _ => True) (.slice (some ⟨W.heap.size, 0, none⟩) xs.length xs.length) xs := by
 refine ⟨fun k hk => trivial, inner, ?_, ?_⟩
 ·
  have h2 := World.ownsRow_lit (base := base) (e := e) (size := d.sz) W inner.toArray xs.length hbase (by simpa [maxLen] using hm) (by simpa using hrep.1)
  simpa using h2
 ·
  refine hrep.imp_ (fun p c hp => d.M_mono (fun k hk => ⟨trivial, fun he => ?_⟩) (Kd.M_below (d.M_bound hp) (below_alloc (Below.refl _ _) _)))
  have h3 : k = W.heap.size := by simpa [Value.ownBlock] using he
  have := hk.2.2.1
  omega
theorem told_nil (l : List UInt8) : (l == ([] : List UInt8)) = l.isEmpty := by cases l <;> rfl
theorem told_row {W w1 : World} {v : Value} {l : List S61} {p b : Nat} {cs : Array Value} {t : TypeId} (h : Kd.R k61 61 W w1.heap.size (fun _ => True) v l) (hp : w1.heap[p]? = some (.cells cs t (0, 0))) (hb : b ≤ w1.heap.size) : Kd.R k61 61 W b (fun k => k ≠ p) v l :=
 Kd.R_lower (Kd.R_reok rfl h (fun k hk => by have := Kd.R_base h k hk; have := blk_lt hp; omega)) hb
theorem told_put3 {W : World} {b t : Nat} {x y z u v p : Value} (h : W.heap[b]? = some (.cells #[u, v, p] t (0, 0))) :
  (((W.setCell ⟨b, 0, none⟩ x).setCell ⟨b, 1, none⟩ y).setCell ⟨b, 2, none⟩ z).heap[b]? = some (.cells #[x, y, z] t (0, 0)) :=
 blk_put (cs' := #[x, y, z]) (blk_put (cs' := #[x, y, p]) (blk_put (cs' := #[x, v, p]) h 0 _ rfl) 1 _ rfl) 2 _ rfl
theorem told_far {W : World} {v x y z : Value} {l : List S61} {p b base : Nat} (h : Kd.R k61 61 W base (fun k => k ≠ p) v l) (hn : ∀ k, v.ownBlock = some k → k ≠ b) : Kd.R k61 61 (((W.setCell ⟨b, 0, none⟩ x).setCell ⟨b, 1, none⟩ y).setCell ⟨b, 2, none⟩ z) base (fun k => k ≠ p) v l := by
 have h2 : Kd.R k61 61 W base (fun k => k ≠ p ∧ k ≠ b) v l := Kd.R_reok rfl h (fun k hk => ⟨h.1 k hk, hn k hk⟩)
 exact Kd.R_mono (Kd.R_step h2 (fun k hk _ => by rw [Below.heap_setCell _ _ _ k hk.2, Below.heap_setCell _ _ _ k hk.2, Below.heap_setCell _ _ _ k hk.2])) (fun _ hk => hk.1)
set_option maxHeartbeats 16000000 in
set_option maxRecDepth 100000 in
theorem line_told.calls (k : Nat) (a0_0 : Int) (a0_1 : Int) (a0_2 : ByteArray) (a0_3 : ByteArray) (a0_4 : Int) (a0_5 : Int) (a0_6 : ByteArray) (r1 : List (S61)) (r2 : Bool) (w : World) (hT : Lib.TabIs Tryz.prog w "internal/strconv.uint64pow10" .u64 Lib.pow10Tab) (hD : LexW.LexD w) (hM : ExW.ModsAt w) (hG : LiW.RegsAt w) (h : line_told.f k a0_0 a0_1 a0_2 a0_3 a0_4 a0_5 a0_6 = some (r1, r2)) :
  Calls Tryz.prog 34 #[.agg #[.int .u8 a0_0, .int .i64 a0_1, .string a0_2, .string a0_3, .int .i64 a0_4, .int .u8 a0_5, .string a0_6]] w fun e w' => ∃ v0_ : Value, e = .returned (.tuple #[v0_, .bool r2]) ∧ Kd.R k61 61 w' w.heap.size (fun _ => True) v0_ r1 ∧ Below w.heap.size w w' := by
 have hu1 := Tryz.underlying40
 have hu2 := Tryz.underlying38
 have hu3 := Tryz.underlying61
 have HT := Aside0.mk hT
 have HD := Aside0.mk hD
 have HM := Aside0.mk hM
 have HG := Aside0.mk hG
 unfold line_told.f at h
 obtain ⟨⟨rg, ce⟩, hc, h⟩ := Option.bind_eq_some_iff.1 h
 obtain ⟨⟨l, xe⟩, hx, h⟩ := Option.bind_eq_some_iff.1 h
 have hm : ∃ may, line_told.j0 k rg ce l may a0_0 a0_1 a0_2 a0_3 a0_4 a0_5 a0_6 = some (r1, r2) ∧ ((xe = 0 ∧ line_sum.f a0_2 a0_3 a0_4 a0_5 = some may) ∨ (¬ xe = 0 ∧ may = false)) := by
  by_cases c : xe = 0
  ·
   simp only [c, if_true] at h
   obtain ⟨may, hs, h⟩ := Option.bind_eq_some_iff.1 h
   exact ⟨may, h, .inl ⟨c, hs⟩⟩
  ·
   simp only [c, if_false] at h
   exact ⟨false, h, .inr ⟨c, rfl⟩⟩
 clear h
 obtain ⟨may, hj, hs⟩ := hm
 cases k with
 | zero => cases hj
 | succ k =>
 rw [line_told.j0] at hj
 have HC := Aside0.mk hc
 have HX := Aside0.mk hx
 have HJ := Aside0.mk hj
 have HMY := Aside0.mk hs
 clear hT hD hM hG hc hx hj hs
 go_enter Tryz.func34, Tryz.ntmps34
 go_upto_region 3 with (first | ((with_reducible refine gate_dst (N := 1) rfl ?_); refine box_event ?hg (N := 1) ?hd (cs := #[.int .u8 a0_0, .int .i64 a0_1, .string a0_2, .string a0_3, .int .i64 a0_4, .int .u8 a0_5, .string a0_6]) (t := 40) ?hr ?_; (case hd => rfl); (case hg => rfl); (case hr => exact qay2); intro b hg w1 hbox hb; have BB := Aside0.mk hbox; have HB := Aside0.mk hb; have GB : Aside0 (w.heap.size ≤ b) := ⟨by rw [hg]; exact Nat.le_refl _⟩; have c0 := bc0 hbox; have cf0 := blk_frozen hbox 0; have c1 := bc1 hbox; have cf1 := blk_frozen hbox 1; have c2 := bc2 hbox; have cf2 := blk_frozen hbox 2; have c3 := bc3 hbox; have cf3 := blk_frozen hbox 3; have c4 := bc4 hbox; have cf4 := blk_frozen hbox 4; have c5 := bc5 hbox; have cf5 := blk_frozen hbox 5; have c6 := bc6 hbox; have cf6 := blk_frozen hbox 6;  clear hb hbox hg) | (go_at_call 50; (with_reducible refine (line_Called.calls a0_1 rg ce _ (HG.out.below HB.out) HC.out).mono ?_); rintro e w2 ⟨rfl, hb⟩; have HB2 := Aside0.mk (below_step HB.out hb); have BB2 := Aside0.mk (blk_below BB.out hb); clear HB BB c0 cf0 c1 cf1 c2 cf2 c3 cf3 c4 cf4 c5 cf5 c6 cf6; have HB := HB2; have BB := BB2; clear HB2 BB2; have c0 := bc0 BB.out; have cf0 := blk_frozen BB.out 0; have c1 := bc1 BB.out; have cf1 := blk_frozen BB.out 1; have c2 := bc2 BB.out; have cf2 := blk_frozen BB.out 2; have c3 := bc3 BB.out; have cf3 := blk_frozen BB.out 3; have c4 := bc4 BB.out; have cf4 := blk_frozen BB.out 4; have c5 := bc5 BB.out; have cf5 := blk_frozen BB.out 5; have c6 := bc6 BB.out; have cf6 := blk_frozen BB.out 6;  clear hb) | (go_at_call 51; have hT1 := Lib.tabBelow_of_tabIs HT.out _ HB.out; (with_reducible refine (expr_Tokens.calls a0_2 a0_3 a0_4 a0_5 l xe _ hT1 (HD.out.below HB.out) (HM.out.below HB.out) HX.out).mono ?_); clear hT1; rintro e w3 ⟨vl, rfl, hr, hb⟩; have HR := Aside0.mk (told_row hr BB.out HB.out.size); have HB2 := Aside0.mk (below_step HB.out hb); have BB2 := Aside0.mk (blk_below BB.out hb); clear HB BB c0 cf0 c1 cf1 c2 cf2 c3 cf3 c4 cf4 c5 cf5 c6 cf6; have HB := HB2; have BB := BB2; clear HB2 BB2; obtain ⟨Al, ql, hvl⟩ := Kd.R_slice HR.out; subst hvl; have c0 := bc0 BB.out; have cf0 := blk_frozen BB.out 0; have c1 := bc1 BB.out; have cf1 := blk_frozen BB.out 1; have c2 := bc2 BB.out; have cf2 := blk_frozen BB.out 2; have c3 := bc3 BB.out; have cf3 := blk_frozen BB.out 3; have c4 := bc4 BB.out; have cf4 := blk_frozen BB.out 4; have c5 := bc5 BB.out; have cf5 := blk_frozen BB.out 5; have c6 := bc6 BB.out; have cf6 := blk_frozen BB.out 6;  clear hb hr))
 (try simp only [Act.put, List.setIfInBounds_toArray, List.set_cons_zero, List.set_cons_succ])
 go_cut [8] (fun v8 wc => v8 = .bool may ∧ Aside0 (Below w.heap.size w wc) ∧ Aside0 (wc.heap[b]? = some (.cells #[.int .u8 a0_0, .int .i64 a0_1, .string a0_2, .string a0_3, .int .i64 a0_4, .int .u8 a0_5, .string a0_6] 40 (0, 0))) ∧ Aside0 (Kd.R k61 61 wc w.heap.size (fun k => k ≠ b) (.slice Al l.length ql) l))
 case first =>
  rcases HMY.out with ⟨c, hs⟩ | ⟨c, hs⟩
  ·
   have r0 : (xe == 0) = true := beq_iff_eq.2 c
   have r1 : (xe != 0) = false := bne_eq_false_iff_eq.2 c
   have HS := Aside0.mk hs
   clear c hs
   go_wp2_with (first | (go_at_call 52; have hT1 := Lib.tabBelow_of_tabIs HT.out _ HB.out; (with_reducible refine (line_sum.calls a0_2 a0_3 a0_4 a0_5 may _ hT1 (HG.out.below HB.out) HS.out).mono ?_); clear hT1; rintro e w4 ⟨rfl, hb⟩; have HR2 := Aside0.mk (Kd.R_below HR.out hb); clear HR; have HR := HR2; have HB2 := Aside0.mk (below_step HB.out hb); have BB2 := Aside0.mk (blk_below BB.out hb); clear HB BB c0 cf0 c1 cf1 c2 cf2 c3 cf3 c4 cf4 c5 cf5 c6 cf6; have HB := HB2; have BB := BB2; clear HB2 BB2; clear hb HR2))
   go_meet
   case rel => exact ⟨rfl, HB, BB, HR⟩
  ·
   have r0 : (xe == 0) = false := beq_eq_false_iff_ne.2 c
   have r1 : (xe != 0) = true := bne_iff_ne.2 c
   subst hs
   clear c
   go_wp2
   go_meet
   case rel => exact ⟨rfl, HB, BB, HR⟩
 case rest =>
  clear HB BB HR HMY c0 cf0 c1 cf1 c2 cf2 c3 cf3 c4 cf4 c5 cf5 c6 cf6
  obtain ⟨rfl, HB, BB, HR⟩ := hcut
  have c0 := bc0 BB.out
  have cf0 := blk_frozen BB.out 0
  have c1 := bc1 BB.out
  have cf1 := blk_frozen BB.out 1
  have c2 := bc2 BB.out
  have cf2 := blk_frozen BB.out 2
  have c3 := bc3 BB.out
  have cf3 := blk_frozen BB.out 3
  have c4 := bc4 BB.out
  have cf4 := blk_frozen BB.out 4
  have c5 := bc5 BB.out
  have cf5 := blk_frozen BB.out 5
  have c6 := bc6 BB.out
  have cf6 := blk_frozen BB.out 6
  go_upto_region 5 with (first | ((with_reducible refine gate_dst (N := 9) rfl ?_); refine box_event ?hg (N := 9) ?hd (cs := #[.int .u8 0, .string (⟨#[]⟩ : ByteArray), .int .i64 0]) (t := 61) ?hr ?_; (case hd => rfl); (case hg => rfl); (case hr => exact qay2); intro q hg w5 hbox hb; have HB2 := Aside0.mk (below_step HB.out hb); have BB2 := Aside0.mk (blk_below BB.out hb); have HR2 := Aside0.mk (Kd.R_below HR.out hb); have BQ := Aside0.mk hbox; have GQ : Aside0 (w.heap.size ≤ q) := ⟨by rw [hg]; exact below_size HB.out⟩; have NQ : Aside0 (q ≠ b) := ⟨by rw [hg]; exact (Nat.ne_of_lt (blk_lt BB.out)).symm⟩; have RQ : Aside0 (∀ k, (.slice Al l.length ql : Value).ownBlock = some k → k ≠ q) := ⟨fun k hk e => by have := Kd.R_lt HR.out k hk; omega⟩; clear HB BB HR; have HB := HB2; have HR := HR2; clear HB2 HR2; have z0 := bc0 hbox; have zf0 := blk_frozen hbox 0; have z1 := bc1 hbox; have zf1 := blk_frozen hbox 1; have z2 := bc2 hbox; have zf2 := blk_frozen hbox 2;  clear hb hbox hg) | ((with_reducible refine gate_store (t := 61) (p := 9) (v := .tmp 31) rfl ?_); refine store_event (t := 61) (p := 9) (v := .tmp 31) (w1 := (((w5.setCell ⟨q, 0, none⟩ (.int .u8 3)).setCell ⟨q, 1, none⟩ (.string a0_6)).setCell ⟨q, 2, none⟩ (.int .i64 0))) ?hg ?ho ?hn ?hr ?_; (case ho => rfl); (case hg => rfl); (case hn => rfl); (case hr => exact qay2); intro w6 hw6; have BQ6 : Aside0 (w6.heap[q]? = some (.cells #[.int .u8 3, .string a0_6, .int .i64 0] 61 (0, 0))) := ⟨by rw [hw6]; exact told_put3 BQ.out⟩; have BB : Aside0 (w6.heap[b]? = some (.cells #[.int .u8 a0_0, .int .i64 a0_1, .string a0_2, .string a0_3, .int .i64 a0_4, .int .u8 a0_5, .string a0_6] 40 (0, 0))) := ⟨by rw [hw6]; exact blk_far (blk_far (blk_far BB2.out NQ.out.symm _) NQ.out.symm _) NQ.out.symm _⟩; have HB2 : Aside0 (Below w.heap.size w w6) := ⟨by rw [hw6]; exact below_set (below_set (below_set HB.out GQ.out) GQ.out) GQ.out⟩; have HR2 : Aside0 (Kd.R k61 61 w6 w.heap.size (fun k => k ≠ b) (.slice Al l.length ql) l) := ⟨by rw [hw6]; exact told_far HR.out RQ.out⟩; clear hw6 HB HR BB2 BQ z0 z1 z2 zf0 zf1 zf2 c0 c1 c2 c3 c4 c5 c6 cf0 cf1 cf2 cf3 cf4 cf5 cf6; have HB := HB2; have HR := HR2; clear HB2 HR2; have c0 := bc0 BB.out; have cf0 := blk_frozen BB.out 0; have c1 := bc1 BB.out; have cf1 := blk_frozen BB.out 1; have c2 := bc2 BB.out; have cf2 := blk_frozen BB.out 2; have c3 := bc3 BB.out; have cf3 := blk_frozen BB.out 3; have c4 := bc4 BB.out; have cf4 := blk_frozen BB.out 4; have c5 := bc5 BB.out; have cf5 := blk_frozen BB.out 5; have c6 := bc6 BB.out; have cf6 := blk_frozen BB.out 6;  have z0 := bc0 BQ6.out; have zf0 := blk_frozen BQ6.out 0; have z1 := bc1 BQ6.out; have zf1 := blk_frozen BQ6.out 1; have z2 := bc2 BQ6.out; have zf2 := blk_frozen BQ6.out 2;  skip))
  (try simp only [Act.put, List.setIfInBounds_toArray, List.set_cons_zero, List.set_cons_succ])
  have hj := HJ.out
  clear HJ
  by_cases k4 : a0_0 = 4
  ·
   subst k4
   rw [if_pos rfl] at hj
   simp only [Option.bind_some] at hj
   obtain ⟨bq, hq⟩ : ∃ bq, (a0_1 == 0 && ((a0_2.toList == ([] : List UInt8) && (a0_3.toList == ([] : List UInt8) && (a0_4 == 0 && (a0_5 == 0)))))) = bq := ⟨_, rfl⟩
   rw [hq] at hj
   simp only [told_nil] at hq
   cases bq with
   | true =>
    rw [if_pos rfl] at hj
    obtain ⟨t, hk, hj⟩ := Option.bind_eq_some_iff.1 hj
    have HK := Aside0.mk hk
    cases hj
    clear hk
    go_wp2
    (first | (go_region_held3 (fun w' => (w'.cell? ⟨b, 0, none⟩ = some (.int .u8 4) ∧ w'.cell? ⟨b, 1, none⟩ = some (.int .i64 a0_1) ∧ w'.cell? ⟨b, 2, none⟩ = some (.string a0_2) ∧ w'.cell? ⟨b, 3, none⟩ = some (.string a0_3) ∧ w'.cell? ⟨b, 4, none⟩ = some (.int .i64 a0_4) ∧ w'.cell? ⟨b, 5, none⟩ = some (.int .u8 a0_5) ∧ w'.cell? ⟨b, 6, none⟩ = some (.string a0_6)) ∧ (w'.cell? ⟨q, 0, none⟩ = some (.int .u8 3) ∧ w'.cell? ⟨q, 1, none⟩ = some (.string a0_6) ∧ w'.cell? ⟨q, 2, none⟩ = some (.int .i64 0))) (first | exact ⟨told_S (blk_drew BB.out), told_S3 (blk_drew BQ6.out)⟩ | exact ⟨told_S (blk_drew (blk_alloc BB.out _)), told_S3 (blk_drew (blk_alloc BQ6.out _))⟩ | exact ⟨told_S (blk_below (blk_drew (blk_alloc BB.out _)) hb8), told_S3 (blk_below (blk_drew (blk_alloc BQ6.out _)) hb8)⟩ | exact ⟨told_S (blk_below (blk_drew BB.out) hb8), told_S3 (blk_below (blk_drew BQ6.out) hb8)⟩ | exact ⟨told_S (blk_alloc (blk_below (blk_drew BB.out) hb8) _), told_S3 (blk_alloc (blk_below (blk_drew BQ6.out) hb8) _)⟩ | fail) (first | (go_at_call 49; (with_reducible refine (lex_Check.calls k 3 a0_6 0 t _ ?s1 ?s2 HK.out).mono ?_); (case s1 => exact Lib.tabBelow_of_tabIs HT.out _ (by first | exact below_drew1 (below_alloc HB.out _) | exact below_drew1 HB.out)); (case s2 => exact HD.out.below (by first | exact below_drew1 (below_alloc HB.out _) | exact below_drew1 HB.out)); rintro e w8 ⟨rfl, hb8⟩) | fail)) | fail)
    all_goals
     go_wp2
     go_ret2
     first | exact ⟨_, rfl, Kd.R_below (Kd.R_drew (lit_row k61 (Reps.c3 (show Kd.M k61 _ _ _ (⟨3, a0_6, 0⟩ : S61) [.int .u8 3, .string a0_6, .int .i64 0] from k61_mkM _ _ _ (⟨3, a0_6, 0⟩ : S61)) (Reps.none _ _)) (below_size HB.out) (by simp))) hb8, below_step (below_drew1 (below_alloc HB.out _)) hb8⟩ | exact ⟨_, rfl, lit_row k61 (Reps.c3 (show Kd.M k61 _ _ _ (⟨3, a0_6, 0⟩ : S61) [.int .u8 3, .string a0_6, .int .i64 0] from k61_mkM _ _ _ (⟨3, a0_6, 0⟩ : S61)) (Reps.none _ _)) (below_size (below_step (below_drew1 HB.out) hb8)) (by simp), below_alloc (below_step (below_drew1 HB.out) hb8) _⟩
   | false =>
    rw [if_neg (by simp)] at hj
    cases hj
    go_wp2
    have d0 := pw_cell_below (below_alloc (Below.refl w6.heap.size w6) (Obj.cells #[.int .u8 3, .string a0_6, .int .i64 0] 61)) c0
    have d1 := pw_cell_below (below_alloc (Below.refl w6.heap.size w6) (Obj.cells #[.int .u8 3, .string a0_6, .int .i64 0] 61)) c1
    have d2 := pw_cell_below (below_alloc (Below.refl w6.heap.size w6) (Obj.cells #[.int .u8 3, .string a0_6, .int .i64 0] 61)) c2
    have d3 := pw_cell_below (below_alloc (Below.refl w6.heap.size w6) (Obj.cells #[.int .u8 3, .string a0_6, .int .i64 0] 61)) c3
    have d4 := pw_cell_below (below_alloc (Below.refl w6.heap.size w6) (Obj.cells #[.int .u8 3, .string a0_6, .int .i64 0] 61)) c4
    have d5 := pw_cell_below (below_alloc (Below.refl w6.heap.size w6) (Obj.cells #[.int .u8 3, .string a0_6, .int .i64 0] 61)) c5
    have d6 := pw_cell_below (below_alloc (Below.refl w6.heap.size w6) (Obj.cells #[.int .u8 3, .string a0_6, .int .i64 0] 61)) c6
    have g0 := pw_cell_below (below_alloc (Below.refl w6.heap.size w6) (Obj.cells #[.int .u8 3, .string a0_6, .int .i64 0] 61)) z0
    have g1 := pw_cell_below (below_alloc (Below.refl w6.heap.size w6) (Obj.cells #[.int .u8 3, .string a0_6, .int .i64 0] 61)) z1
    have g2 := pw_cell_below (below_alloc (Below.refl w6.heap.size w6) (Obj.cells #[.int .u8 3, .string a0_6, .int .i64 0] 61)) z2
    go_region
    all_goals
     go_wp2
     go_ret2
     exact ⟨_, rfl, Kd.R_drew (lit_row k61 (Reps.c3 (show Kd.M k61 _ _ _ (⟨3, a0_6, 0⟩ : S61) [.int .u8 3, .string a0_6, .int .i64 0] from k61_mkM _ _ _ (⟨3, a0_6, 0⟩ : S61)) (Reps.none _ _)) (below_size HB.out) (by simp)), below_drew1 (below_alloc HB.out _)⟩
  rw [if_neg k4] at hj
  have e4 : (a0_0 == 4) = false := beq_eq_false_iff_ne.2 k4
  by_cases k1 : a0_0 = 1
  ·
   subst k1
   rw [if_pos rfl] at hj
   obtain ⟨⟨x1, x2, x3⟩, hw, hj⟩ := Option.bind_eq_some_iff.1 hj
   simp only [Option.bind_some] at hj
   have HW := Aside0.mk hw
   obtain ⟨bq, hq⟩ : ∃ bq, ((a0_2.toList == ([] : List UInt8) && (a0_3.toList == ([] : List UInt8) && (a0_4 == 0 && (a0_5 == 0)))) && (a0_6.toList == ([] : List UInt8))) = bq := ⟨_, rfl⟩
   rw [hq] at hj
   simp only [told_nil] at hq
   clear hw
   cases bq with
   | true =>
    rw [if_pos rfl] at hj
    cases hj
    go_wp2
    (first | (go_region_held3 (fun w' => w'.cell? ⟨b, 0, none⟩ = some (.int .u8 1) ∧ w'.cell? ⟨b, 1, none⟩ = some (.int .i64 a0_1) ∧ w'.cell? ⟨b, 2, none⟩ = some (.string a0_2) ∧ w'.cell? ⟨b, 3, none⟩ = some (.string a0_3) ∧ w'.cell? ⟨b, 4, none⟩ = some (.int .i64 a0_4) ∧ w'.cell? ⟨b, 5, none⟩ = some (.int .u8 a0_5) ∧ w'.cell? ⟨b, 6, none⟩ = some (.string a0_6)) (first | exact told_S (blk_drew BB.out) | exact told_S (blk_below (blk_drew BB.out) hb8) | exact told_S (blk_alloc (blk_below (blk_drew BB.out) hb8) _) | fail) (first | (go_at_call 32; (with_reducible refine (line_word.calls rg x1 x2 x3 _ HW.out).mono ?_); rintro e w8 ⟨rfl, hb8⟩) | fail)) | fail)
    all_goals
     go_wp2
     go_ret2
     exact ⟨_, rfl, lit_row k61 (Reps.c3 (show Kd.M k61 _ _ _ (⟨x1, x2, x3⟩ : S61) [.int .u8 x1, .string x2, .int .i64 x3] from k61_mkM _ _ _ (⟨x1, x2, x3⟩ : S61)) (Reps.none _ _)) (below_size (below_step (below_drew1 HB.out) hb8)) (by simp), below_alloc (below_step (below_drew1 HB.out) hb8) _⟩
   | false =>
    rw [if_neg (by simp)] at hj
    cases hj
    go_wp2
    have HBd := Aside0.mk (below_drew1 HB.out)
    refine start_ (n := 16) (S := fun w' => w'.cell? ⟨b, 0, none⟩ = some (.int .u8 1) ∧ w'.cell? ⟨b, 1, none⟩ = some (.int .i64 a0_1) ∧ w'.cell? ⟨b, 2, none⟩ = some (.string a0_2) ∧ w'.cell? ⟨b, 3, none⟩ = some (.string a0_3) ∧ w'.cell? ⟨b, 4, none⟩ = some (.int .i64 a0_4) ∧ w'.cell? ⟨b, 5, none⟩ = some (.int .u8 a0_5) ∧ w'.cell? ⟨b, 6, none⟩ = some (.string a0_6)) (ds := []) #[false, false, false, false, false, false, false, false, false, false, false, false, false, false, false, false] (by kernel_rfl) rfl rfl ⟨c0, c1, c2, c3, c4, c5, c6⟩ (fun hHeld => ?_)
    refine pure_ (i := 0) (N := some 52) (v := ?_) (a' := ?_) #[true, false, false, false, false, false, false, false, false, false, false, false, false, false, false, false] rfl rfl (by kernel_rfl) (fun _ _ _ h => h) (Or.inl ⟨by rfl, ?_⟩) ?_ ?_
    rotate_left
    ·
     intro w'
     go_simp
     with_reducible rfl
    rotate_left
    ·
     simp only [Act.put, List.setIfInBounds_toArray, List.set_cons_zero, List.set_cons_succ, i64_w, i32_w]
     rfl
    refine pure_ (i := 4) (N := some 56) (v := ?_) (a' := ?_) #[true, false, false, false, true, false, false, false, false, false, false, false, false, false, false, false] rfl rfl (by kernel_rfl) (fun _ _ _ h => h) (Or.inl ⟨by rfl, ?_⟩) ?_ ?_
    rotate_left
    ·
     intro w'
     go_simp
     with_reducible rfl
    rotate_left
    ·
     simp only [Act.put, List.setIfInBounds_toArray, List.set_cons_zero, List.set_cons_succ, i64_w, i32_w]
     rfl
    refine pure_ (i := 6) (N := some 58) (v := ?_) (a' := ?_) #[true, false, false, false, true, false, true, false, false, false, false, false, false, false, false, false] rfl rfl (by kernel_rfl) (fun _ _ _ h => h) (Or.inl ⟨by rfl, ?_⟩) ?_ ?_
    rotate_left
    ·
     intro w'
     go_simp
     with_reducible rfl
    rotate_left
    ·
     simp only [Act.put, List.setIfInBounds_toArray, List.set_cons_zero, List.set_cons_succ, i64_w, i32_w]
     rfl
    refine take_ (i := 3) (N := some 55) (v := ?_) (a' := ?_) #[true, false, false, true, true, false, true, false, false, false, false, false, false, false, false, false] rfl rfl (by kernel_rfl) (fun _ _ _ h => h) (Or.inl ⟨by rfl, ?_⟩) hHeld ?_ ?_
    rotate_left
    ·
     rintro w' ⟨s0, s1, s2, s3, s4, s5, s6⟩
     go_simp
     with_reducible rfl
    rotate_left
    ·
     simp only [Act.put, List.setIfInBounds_toArray, List.set_cons_zero, List.set_cons_succ, i64_w, i32_w]
     rfl
    refine take_ (i := 5) (N := some 57) (v := ?_) (a' := ?_) #[true, false, false, true, true, true, true, false, false, false, false, false, false, false, false, false] rfl rfl (by kernel_rfl) (fun _ _ _ h => h) (Or.inl ⟨by rfl, ?_⟩) hHeld ?_ ?_
    rotate_left
    ·
     rintro w' ⟨s0, s1, s2, s3, s4, s5, s6⟩
     go_simp
     with_reducible rfl
    rotate_left
    ·
     simp only [Act.put, List.setIfInBounds_toArray, List.set_cons_zero, List.set_cons_succ, i64_w, i32_w]
     rfl
    refine take_ (i := 7) (N := some 59) (v := ?_) (a' := ?_) #[true, false, false, true, true, true, true, true, false, false, false, false, false, false, false, false] rfl rfl (by kernel_rfl) (fun _ _ _ h => h) (Or.inl ⟨by rfl, ?_⟩) hHeld ?_ ?_
    rotate_left
    ·
     rintro w' ⟨s0, s1, s2, s3, s4, s5, s6⟩
     go_simp
     with_reducible rfl
    rotate_left
    ·
     simp only [Act.put, List.setIfInBounds_toArray, List.set_cons_zero, List.set_cons_succ, i64_w, i32_w]
     rfl
    refine pure_ (i := 8) (N := some 60) (v := ?_) (a' := ?_) #[true, false, false, true, true, true, true, true, true, false, false, false, false, false, false, false] rfl rfl (by kernel_rfl) (fun _ _ _ h => h) (Or.inl ⟨by rfl, ?_⟩) ?_ ?_
    rotate_left
    ·
     intro w'
     go_simp
     with_reducible rfl
    rotate_left
    ·
     simp only [Act.put, List.setIfInBounds_toArray, List.set_cons_zero, List.set_cons_succ, i64_w, i32_w]
     rfl
    refine pure_ (i := 9) (N := some 61) (v := ?_) (a' := ?_) #[true, false, false, true, true, true, true, true, true, true, false, false, false, false, false, false] rfl rfl (by kernel_rfl) (fun _ _ _ h => h) (Or.inl ⟨by rfl, ?_⟩) ?_ ?_
    rotate_left
    ·
     intro w'
     go_simp
     with_reducible rfl
    rotate_left
    ·
     simp only [Act.put, List.setIfInBounds_toArray, List.set_cons_zero, List.set_cons_succ, i64_w, i32_w]
     rfl
    refine one_ (i := 1) (N := some 53) #[true, true, false, true, true, true, true, true, true, true, false, false, false, false, false, false] rfl rfl (by kernel_rfl) (by decide) (fun K hK => ?_)
    refine goes_ Tryz.func32 (by kernel_rfl) rfl #[.string rg] (by rfl) rfl rfl qay1 ?_
    with_reducible refine (line_word.calls rg x1 x2 x3 _ HW.out).mono ?_
    rintro e w8 ⟨rfl, hb⟩
    refine ⟨_, rfl, ?_⟩
    have HB8 := Aside0.mk (below_step HBd.out hb)
    refine hK.out _ _ ⟨((hb.cell (World.block_lt_of_cell? _ _ hHeld.1)).trans hHeld.1), ((hb.cell (World.block_lt_of_cell? _ _ hHeld.2.1)).trans hHeld.2.1), ((hb.cell (World.block_lt_of_cell? _ _ hHeld.2.2.1)).trans hHeld.2.2.1), ((hb.cell (World.block_lt_of_cell? _ _ hHeld.2.2.2.1)).trans hHeld.2.2.2.1), ((hb.cell (World.block_lt_of_cell? _ _ hHeld.2.2.2.2.1)).trans hHeld.2.2.2.2.1), ((hb.cell (World.block_lt_of_cell? _ _ hHeld.2.2.2.2.2.1)).trans hHeld.2.2.2.2.2.1), ((hb.cell (World.block_lt_of_cell? _ _ hHeld.2.2.2.2.2.2)).trans hHeld.2.2.2.2.2.2)⟩ (fun hHeld => ?_)
    clear hK K
    refine norm_ (a' := ?_) ?_ ?_
    rotate_left
    ·
     show Act.put _ (some 53) _ = _
     simp only [Act.put, List.setIfInBounds_toArray, List.set_cons_zero, List.set_cons_succ, i64_w, i32_w]
     rfl
    refine pure_ (i := 10) (N := some 62) (v := ?_) (a' := ?_) #[true, true, false, true, true, true, true, true, true, true, true, false, false, false, false, false] rfl rfl (by kernel_rfl) (fun _ _ _ h => h) (Or.inl ⟨by rfl, ?_⟩) ?_ ?_
    rotate_left
    ·
     intro w'
     go_simp
     with_reducible rfl
    rotate_left
    ·
     simp only [Act.put, List.setIfInBounds_toArray, List.set_cons_zero, List.set_cons_succ, i64_w, i32_w]
     rfl
    refine pure_ (i := 11) (N := some 63) (v := undef) (a' := ?_) #[true, true, false, true, true, true, true, true, true, true, true, true, false, false, false, false] rfl rfl (by kernel_rfl) (fun _ _ _ h => h) (Or.inr ⟨by rfl, rfl⟩) ?_ ?_
    rotate_left
    ·
     simp only [Act.put, List.setIfInBounds_toArray, List.set_cons_zero, List.set_cons_succ, i64_w, i32_w]
     rfl
    refine pure_ (i := 12) (N := some 64) (v := undef) (a' := ?_) #[true, true, false, true, true, true, true, true, true, true, true, true, true, false, false, false] rfl rfl (by kernel_rfl) (fun _ _ _ h => h) (Or.inr ⟨by rfl, rfl⟩) ?_ ?_
    rotate_left
    ·
     simp only [Act.put, List.setIfInBounds_toArray, List.set_cons_zero, List.set_cons_succ, i64_w, i32_w]
     rfl
    refine pure_ (i := 13) (N := some 65) (v := ?_) (a' := ?_) #[true, true, false, true, true, true, true, true, true, true, true, true, true, true, false, false] rfl rfl (by kernel_rfl) (fun _ _ _ h => h) (Or.inl ⟨by rfl, ?_⟩) ?_ ?_
    rotate_left
    ·
     intro w'
     go_simp
     with_reducible rfl
    rotate_left
    ·
     simp only [Act.put, List.setIfInBounds_toArray, List.set_cons_zero, List.set_cons_succ, i64_w, i32_w]
     rfl
    refine one_ (i := 2) (N := some 54) #[true, true, true, true, true, true, true, true, true, true, true, true, true, true, false, false] rfl rfl (by kernel_rfl) (by decide) (fun K hK => ?_)
    refine Kd.R_lit_step k61 _ 61 ?hg (N := 54) ?hd (xs := [(⟨x1, x2, x3⟩ : S61)]) (inner := [.int .u8 x1, .string x2, .int .i64 x3]) (ok := fun _ => True) (okp := fun _ => True) ?hr ?hp (fun _ hk => hk) trivial (Below.refl _ _) (Nat.le_refl _) (by simp) ?_; (case hd => rfl); (case hg => rfl); (case hr => exact qay2); (case hp => exact Reps.c3 (show Kd.M k61 _ _ _ (⟨x1, x2, x3⟩ : S61) [.int .u8 x1, .string x2, .int .i64 x3] from k61_mkM _ _ _ (⟨x1, x2, x3⟩ : S61)) (Reps.none _ _))
    intro v9 w9 ho hb hg_ hnew_
    have H9 := Aside0.mk ho
    have HB9 := Aside0.mk (below_step HB8.out hb)
    refine hK.out _ _ ⟨((hb.cell (World.block_lt_of_cell? _ _ hHeld.1)).trans hHeld.1), ((hb.cell (World.block_lt_of_cell? _ _ hHeld.2.1)).trans hHeld.2.1), ((hb.cell (World.block_lt_of_cell? _ _ hHeld.2.2.1)).trans hHeld.2.2.1), ((hb.cell (World.block_lt_of_cell? _ _ hHeld.2.2.2.1)).trans hHeld.2.2.2.1), ((hb.cell (World.block_lt_of_cell? _ _ hHeld.2.2.2.2.1)).trans hHeld.2.2.2.2.1), ((hb.cell (World.block_lt_of_cell? _ _ hHeld.2.2.2.2.2.1)).trans hHeld.2.2.2.2.2.1), ((hb.cell (World.block_lt_of_cell? _ _ hHeld.2.2.2.2.2.2)).trans hHeld.2.2.2.2.2.2)⟩ (fun hHeld => ?_)
    clear hK K
    refine norm_ (a' := ?_) ?_ ?_
    rotate_left
    ·
     show Act.put _ (some 54) _ = _
     simp only [Act.put, List.setIfInBounds_toArray, List.set_cons_zero, List.set_cons_succ, i64_w, i32_w]
     rfl
    refine pure_ (i := 14) (N := some 2) (v := ?_) (a' := ?_) #[true, true, true, true, true, true, true, true, true, true, true, true, true, true, true, false] rfl rfl (by kernel_rfl) (fun _ _ _ h => h) (Or.inl ⟨by rfl, ?_⟩) ?_ ?_
    rotate_left
    ·
     intro w'
     go_simp
     with_reducible rfl
    rotate_left
    ·
     simp only [Act.put, List.setIfInBounds_toArray, List.set_cons_zero, List.set_cons_succ, i64_w, i32_w]
     rfl
    refine pure_ (i := 15) (N := some 3) (v := ?_) (a' := ?_) #[true, true, true, true, true, true, true, true, true, true, true, true, true, true, true, true] rfl rfl (by kernel_rfl) (fun _ _ _ h => h) (Or.inl ⟨by rfl, ?_⟩) ?_ ?_
    rotate_left
    ·
     intro w'
     go_simp
     with_reducible rfl
    rotate_left
    ·
     simp only [Act.put, List.setIfInBounds_toArray, List.set_cons_zero, List.set_cons_succ, i64_w, i32_w]
     rfl
    refine done_ (by kernel_rfl) ?_
    go_wp2
    go_ret2
    exact ⟨_, rfl, Kd.R_lower H9.out (below_size HB8.out), HB9.out⟩
  rw [if_neg k1] at hj
  have e1 : (a0_0 == 1) = false := beq_eq_false_iff_ne.2 k1
  by_cases k2 : a0_0 = 2
  ·
   subst k2
   rw [if_pos rfl] at hj
   obtain ⟨bq, hq⟩ : ∃ bq, (a0_1 == 0 && (a0_6.toList == ([] : List UInt8))) = bq := ⟨_, rfl⟩
   rw [hq] at hj
   simp only [told_nil] at hq
   cases bq with
   | true =>
    rw [if_pos rfl] at hj
    cases hj
    go_wp2
    go_ret2
    exact ⟨_, rfl, Kd.R_mono HR.out (fun _ _ => trivial), HB.out⟩
   | false =>
    rw [if_neg (by simp)] at hj
    cases hj
    go_wp2
    go_ret2
    exact ⟨_, rfl, Kd.R_mono HR.out (fun _ _ => trivial), HB.out⟩
  rw [if_neg k2] at hj
  have e2 : (a0_0 == 2) = false := beq_eq_false_iff_ne.2 k2
  by_cases k3 : a0_0 = 3
  ·
   subst k3
   rw [if_pos rfl] at hj
   obtain ⟨⟨x1, x2, x3⟩, hw1, hj⟩ := Option.bind_eq_some_iff.1 hj
   obtain ⟨⟨y1, y2, y3⟩, hw2, hj⟩ := Option.bind_eq_some_iff.1 hj
   obtain ⟨⟨u1, u2, u3⟩, hw3, hj⟩ := Option.bind_eq_some_iff.1 hj
   simp only [Option.bind_some] at hj
   have W1 := Aside0.mk hw1
   have W2 := Aside0.mk hw2
   have W3 := Aside0.mk hw3
   clear hw1 hw2 hw3
   have cl : l.length + [(⟨x1, x2, x3⟩ : S61), ⟨y1, y2, y3⟩, ⟨u1, u2, u3⟩].length < 4398046511104 := by
    refine Decidable.byContradiction fun cl => ?_
    rw [if_neg cl] at hj
    cases hj
   rw [if_pos cl] at hj
   have CL := Aside0.mk cl
   clear cl
   have hj' : r1 = l ++ [(⟨x1, x2, x3⟩ : S61), ⟨y1, y2, y3⟩, ⟨u1, u2, u3⟩] ∧ r2 = ((a0_6.toList == ([] : List UInt8)) && (may && (ce == 0))) := by
    cases hq : (a0_6.toList == ([] : List UInt8)) with
    | true =>
     rw [hq, if_pos rfl] at hj
     cases may with
     | true => rw [if_pos rfl] at hj; cases hj; exact ⟨rfl, rfl⟩
     | false => rw [if_neg (by simp)] at hj; cases hj; exact ⟨rfl, rfl⟩
    | false => rw [hq, if_neg (by simp)] at hj; cases hj; exact ⟨rfl, rfl⟩
   clear hj
   obtain ⟨rfl, hr2⟩ := hj'
   obtain ⟨bq, hq⟩ : ∃ bq, (a0_6.toList == ([] : List UInt8)) = bq := ⟨_, rfl⟩
   rw [hq] at hr2
   have R2 := Aside0.mk hr2
   clear hr2
   simp only [told_nil] at hq
   cases bq with
   | false =>
    go_wp2
    have HBd := Aside0.mk (below_drew1 HB.out)
    refine start_ (n := 25) (S := fun w' => w'.cell? ⟨b, 0, none⟩ = some (.int .u8 3) ∧ w'.cell? ⟨b, 1, none⟩ = some (.int .i64 a0_1) ∧ w'.cell? ⟨b, 2, none⟩ = some (.string a0_2) ∧ w'.cell? ⟨b, 3, none⟩ = some (.string a0_3) ∧ w'.cell? ⟨b, 4, none⟩ = some (.int .i64 a0_4) ∧ w'.cell? ⟨b, 5, none⟩ = some (.int .u8 a0_5) ∧ w'.cell? ⟨b, 6, none⟩ = some (.string a0_6)) (ds := []) #[false, false, false, false, false, false, false, false, false, false, false, false, false, false, false, false, false, false, false, false, false, false, false, false, false] (by kernel_rfl) rfl rfl ⟨c0, c1, c2, c3, c4, c5, c6⟩ (fun hHeld => ?_)
    refine pure_ (i := 0) (N := some 81) (v := ?_) (a' := ?_) #[true, false, false, false, false, false, false, false, false, false, false, false, false, false, false, false, false, false, false, false, false, false, false, false, false] rfl rfl (by kernel_rfl) (fun _ _ _ h => h) (Or.inl ⟨by rfl, ?_⟩) ?_ ?_
    rotate_left
    ·
     intro w'
     go_simp
     with_reducible rfl
    rotate_left
    ·
     simp only [Act.put, List.setIfInBounds_toArray, List.set_cons_zero, List.set_cons_succ, i64_w, i32_w]
     rfl
    refine pure_ (i := 2) (N := some 83) (v := ?_) (a' := ?_) #[true, false, true, false, false, false, false, false, false, false, false, false, false, false, false, false, false, false, false, false, false, false, false, false, false] rfl rfl (by kernel_rfl) (fun _ _ _ h => h) (Or.inl ⟨by rfl, ?_⟩) ?_ ?_
    rotate_left
    ·
     intro w'
     go_simp
     with_reducible rfl
    rotate_left
    ·
     simp only [Act.put, List.setIfInBounds_toArray, List.set_cons_zero, List.set_cons_succ, i64_w, i32_w]
     rfl
    refine pure_ (i := 8) (N := some 89) (v := ?_) (a' := ?_) #[true, false, true, false, false, false, false, false, true, false, false, false, false, false, false, false, false, false, false, false, false, false, false, false, false] rfl rfl (by kernel_rfl) (fun _ _ _ h => h) (Or.inl ⟨by rfl, ?_⟩) ?_ ?_
    rotate_left
    ·
     intro w'
     go_simp
     with_reducible rfl
    rotate_left
    ·
     simp only [Act.put, List.setIfInBounds_toArray, List.set_cons_zero, List.set_cons_succ, i64_w, i32_w]
     rfl
    refine pure_ (i := 10) (N := some 91) (v := ?_) (a' := ?_) #[true, false, true, false, false, false, false, false, true, false, true, false, false, false, false, false, false, false, false, false, false, false, false, false, false] rfl rfl (by kernel_rfl) (fun _ _ _ h => h) (Or.inl ⟨by rfl, ?_⟩) ?_ ?_
    rotate_left
    ·
     intro w'
     go_simp
     with_reducible rfl
    rotate_left
    ·
     simp only [Act.put, List.setIfInBounds_toArray, List.set_cons_zero, List.set_cons_succ, i64_w, i32_w]
     rfl
    refine pure_ (i := 12) (N := some 93) (v := ?_) (a' := ?_) #[true, false, true, false, false, false, false, false, true, false, true, false, true, false, false, false, false, false, false, false, false, false, false, false, false] rfl rfl (by kernel_rfl) (fun _ _ _ h => h) (Or.inl ⟨by rfl, ?_⟩) ?_ ?_
    rotate_left
    ·
     intro w'
     go_simp
     with_reducible rfl
    rotate_left
    ·
     simp only [Act.put, List.setIfInBounds_toArray, List.set_cons_zero, List.set_cons_succ, i64_w, i32_w]
     rfl
    refine take_ (i := 7) (N := some 88) (v := ?_) (a' := ?_) #[true, false, true, false, false, false, false, true, true, false, true, false, true, false, false, false, false, false, false, false, false, false, false, false, false] rfl rfl (by kernel_rfl) (fun _ _ _ h => h) (Or.inl ⟨by rfl, ?_⟩) hHeld ?_ ?_
    rotate_left
    ·
     rintro w' ⟨s0, s1, s2, s3, s4, s5, s6⟩
     go_simp
     with_reducible rfl
    rotate_left
    ·
     simp only [Act.put, List.setIfInBounds_toArray, List.set_cons_zero, List.set_cons_succ, i64_w, i32_w]
     rfl
    refine take_ (i := 9) (N := some 90) (v := ?_) (a' := ?_) #[true, false, true, false, false, false, false, true, true, true, true, false, true, false, false, false, false, false, false, false, false, false, false, false, false] rfl rfl (by kernel_rfl) (fun _ _ _ h => h) (Or.inl ⟨by rfl, ?_⟩) hHeld ?_ ?_
    rotate_left
    ·
     rintro w' ⟨s0, s1, s2, s3, s4, s5, s6⟩
     go_simp
     with_reducible rfl
    rotate_left
    ·
     simp only [Act.put, List.setIfInBounds_toArray, List.set_cons_zero, List.set_cons_succ, i64_w, i32_w]
     rfl
    refine take_ (i := 11) (N := some 92) (v := ?_) (a' := ?_) #[true, false, true, false, false, false, false, true, true, true, true, true, true, false, false, false, false, false, false, false, false, false, false, false, false] rfl rfl (by kernel_rfl) (fun _ _ _ h => h) (Or.inl ⟨by rfl, ?_⟩) hHeld ?_ ?_
    rotate_left
    ·
     rintro w' ⟨s0, s1, s2, s3, s4, s5, s6⟩
     go_simp
     with_reducible rfl
    rotate_left
    ·
     simp only [Act.put, List.setIfInBounds_toArray, List.set_cons_zero, List.set_cons_succ, i64_w, i32_w]
     rfl
    refine take_ (i := 13) (N := some 94) (v := ?_) (a' := ?_) #[true, false, true, false, false, false, false, true, true, true, true, true, true, true, false, false, false, false, false, false, false, false, false, false, false] rfl rfl (by kernel_rfl) (fun _ _ _ h => h) (Or.inl ⟨by rfl, ?_⟩) hHeld ?_ ?_
    rotate_left
    ·
     rintro w' ⟨s0, s1, s2, s3, s4, s5, s6⟩
     go_simp
     with_reducible rfl
    rotate_left
    ·
     simp only [Act.put, List.setIfInBounds_toArray, List.set_cons_zero, List.set_cons_succ, i64_w, i32_w]
     rfl
    refine pure_ (i := 14) (N := some 95) (v := ?_) (a' := ?_) #[true, false, true, false, false, false, false, true, true, true, true, true, true, true, true, false, false, false, false, false, false, false, false, false, false] rfl rfl (by kernel_rfl) (fun _ _ _ h => h) (Or.inl ⟨by rfl, ?_⟩) ?_ ?_
    rotate_left
    ·
     intro w'
     go_simp
     with_reducible rfl
    rotate_left
    ·
     simp only [Act.put, List.setIfInBounds_toArray, List.set_cons_zero, List.set_cons_succ, i64_w, i32_w]
     rfl
    refine pure_ (i := 15) (N := some 96) (v := ?_) (a' := ?_) #[true, false, true, false, false, false, false, true, true, true, true, true, true, true, true, true, false, false, false, false, false, false, false, false, false] rfl rfl (by kernel_rfl) (fun _ _ _ h => h) (Or.inl ⟨by rfl, ?_⟩) ?_ ?_
    rotate_left
    ·
     intro w'
     go_simp
     with_reducible rfl
    rotate_left
    ·
     simp only [Act.put, List.setIfInBounds_toArray, List.set_cons_zero, List.set_cons_succ, i64_w, i32_w]
     rfl
    refine one_ (i := 1) (N := some 82) #[true, true, true, false, false, false, false, true, true, true, true, true, true, true, true, true, false, false, false, false, false, false, false, false, false] rfl rfl (by kernel_rfl) (by decide) (fun K hK => ?_)
    refine goes_ Tryz.func31 (by kernel_rfl) rfl #[.string (⟨#[40]⟩ : ByteArray)] (by rfl) rfl rfl qay1 ?_
    with_reducible refine (line_mark.calls (⟨#[40]⟩ : ByteArray) x1 x2 x3 _ W1.out).mono ?_
    rintro e w11 ⟨rfl, hb⟩
    refine ⟨_, rfl, ?_⟩
    have BB1 := Aside0.mk (blk_below (blk_drew BB.out) hb)
    have HR1 := Aside0.mk (Kd.R_below (Kd.R_drew HR.out) hb)
    have HB1 := Aside0.mk (below_step (HBd.out) hb)
    refine hK.out _ _ ⟨((hb.cell (World.block_lt_of_cell? _ _ hHeld.1)).trans hHeld.1), ((hb.cell (World.block_lt_of_cell? _ _ hHeld.2.1)).trans hHeld.2.1), ((hb.cell (World.block_lt_of_cell? _ _ hHeld.2.2.1)).trans hHeld.2.2.1), ((hb.cell (World.block_lt_of_cell? _ _ hHeld.2.2.2.1)).trans hHeld.2.2.2.1), ((hb.cell (World.block_lt_of_cell? _ _ hHeld.2.2.2.2.1)).trans hHeld.2.2.2.2.1), ((hb.cell (World.block_lt_of_cell? _ _ hHeld.2.2.2.2.2.1)).trans hHeld.2.2.2.2.2.1), ((hb.cell (World.block_lt_of_cell? _ _ hHeld.2.2.2.2.2.2)).trans hHeld.2.2.2.2.2.2)⟩ (fun hHeld => ?_)
    clear hK K
    refine norm_ (a' := ?_) ?_ ?_
    rotate_left
    ·
     show Act.put _ (some 82) _ = _
     simp only [Act.put, List.setIfInBounds_toArray, List.set_cons_zero, List.set_cons_succ, i64_w, i32_w]
     rfl
    refine one_ (i := 3) (N := some 84) #[true, true, true, true, false, false, false, true, true, true, true, true, true, true, true, true, false, false, false, false, false, false, false, false, false] rfl rfl (by kernel_rfl) (by decide) (fun K hK => ?_)
    refine goes_ Tryz.func32 (by kernel_rfl) rfl #[.string rg] (by rfl) rfl rfl qay1 ?_
    with_reducible refine (line_word.calls rg y1 y2 y3 _ W2.out).mono ?_
    rintro e w12 ⟨rfl, hb⟩
    refine ⟨_, rfl, ?_⟩
    have BB2 := Aside0.mk (blk_below (BB1.out) hb)
    have HR2 := Aside0.mk (Kd.R_below (HR1.out) hb)
    have HB2 := Aside0.mk (below_step (HB1.out) hb)
    refine hK.out _ _ ⟨((hb.cell (World.block_lt_of_cell? _ _ hHeld.1)).trans hHeld.1), ((hb.cell (World.block_lt_of_cell? _ _ hHeld.2.1)).trans hHeld.2.1), ((hb.cell (World.block_lt_of_cell? _ _ hHeld.2.2.1)).trans hHeld.2.2.1), ((hb.cell (World.block_lt_of_cell? _ _ hHeld.2.2.2.1)).trans hHeld.2.2.2.1), ((hb.cell (World.block_lt_of_cell? _ _ hHeld.2.2.2.2.1)).trans hHeld.2.2.2.2.1), ((hb.cell (World.block_lt_of_cell? _ _ hHeld.2.2.2.2.2.1)).trans hHeld.2.2.2.2.2.1), ((hb.cell (World.block_lt_of_cell? _ _ hHeld.2.2.2.2.2.2)).trans hHeld.2.2.2.2.2.2)⟩ (fun hHeld => ?_)
    clear hK K
    refine norm_ (a' := ?_) ?_ ?_
    rotate_left
    ·
     show Act.put _ (some 84) _ = _
     simp only [Act.put, List.setIfInBounds_toArray, List.set_cons_zero, List.set_cons_succ, i64_w, i32_w]
     rfl
    refine one_ (i := 4) (N := some 85) #[true, true, true, true, true, false, false, true, true, true, true, true, true, true, true, true, false, false, false, false, false, false, false, false, false] rfl rfl (by kernel_rfl) (by decide) (fun K hK => ?_)
    refine goes_ Tryz.func31 (by kernel_rfl) rfl #[.string (⟨#[41]⟩ : ByteArray)] (by rfl) rfl rfl qay1 ?_
    with_reducible refine (line_mark.calls (⟨#[41]⟩ : ByteArray) u1 u2 u3 _ W3.out).mono ?_
    rintro e w13 ⟨rfl, hb⟩
    refine ⟨_, rfl, ?_⟩
    have BB3 := Aside0.mk (blk_below (BB2.out) hb)
    have HR3 := Aside0.mk (Kd.R_below (HR2.out) hb)
    have HB3 := Aside0.mk (below_step (HB2.out) hb)
    refine hK.out _ _ ⟨((hb.cell (World.block_lt_of_cell? _ _ hHeld.1)).trans hHeld.1), ((hb.cell (World.block_lt_of_cell? _ _ hHeld.2.1)).trans hHeld.2.1), ((hb.cell (World.block_lt_of_cell? _ _ hHeld.2.2.1)).trans hHeld.2.2.1), ((hb.cell (World.block_lt_of_cell? _ _ hHeld.2.2.2.1)).trans hHeld.2.2.2.1), ((hb.cell (World.block_lt_of_cell? _ _ hHeld.2.2.2.2.1)).trans hHeld.2.2.2.2.1), ((hb.cell (World.block_lt_of_cell? _ _ hHeld.2.2.2.2.2.1)).trans hHeld.2.2.2.2.2.1), ((hb.cell (World.block_lt_of_cell? _ _ hHeld.2.2.2.2.2.2)).trans hHeld.2.2.2.2.2.2)⟩ (fun hHeld => ?_)
    clear hK K
    refine norm_ (a' := ?_) ?_ ?_
    rotate_left
    ·
     show Act.put _ (some 85) _ = _
     simp only [Act.put, List.setIfInBounds_toArray, List.set_cons_zero, List.set_cons_succ, i64_w, i32_w]
     rfl
    refine one_ (i := 5) (N := some 86) #[true, true, true, true, true, true, false, true, true, true, true, true, true, true, true, true, false, false, false, false, false, false, false, false, false] rfl rfl (by kernel_rfl) (by decide) (fun K hK => ?_)
    refine Kd.R_lit_step k61 _ 61 ?hg (N := 86) ?hd (xs := [(⟨x1, x2, x3⟩ : S61), (⟨y1, y2, y3⟩ : S61), (⟨u1, u2, u3⟩ : S61)]) (inner := [.int .u8 x1, .string x2, .int .i64 x3, .int .u8 y1, .string y2, .int .i64 y3, .int .u8 u1, .string u2, .int .i64 u3]) (ok := fun _ => True) (okp := fun _ => True) ?hr ?hp (fun _ hk => hk) trivial (Below.refl _ _) (Nat.le_refl _) (by simp) ?_; (case hd => rfl); (case hg => rfl); (case hr => exact qay2); (case hp => exact qay0)
    intro v9 w9 ho hb hg_ hnew_
    obtain ⟨P9, q9, hv9⟩ := Kd.R_slice ho
    subst hv9
    have HL9 := Aside0.mk hb
    have HL9R := Aside0.mk (Kd.R_reads' ho)
    have BB9 := Aside0.mk (blk_below BB3.out hb)
    refine hK.out _ _ ⟨((hb.cell (World.block_lt_of_cell? _ _ hHeld.1)).trans hHeld.1), ((hb.cell (World.block_lt_of_cell? _ _ hHeld.2.1)).trans hHeld.2.1), ((hb.cell (World.block_lt_of_cell? _ _ hHeld.2.2.1)).trans hHeld.2.2.1), ((hb.cell (World.block_lt_of_cell? _ _ hHeld.2.2.2.1)).trans hHeld.2.2.2.1), ((hb.cell (World.block_lt_of_cell? _ _ hHeld.2.2.2.2.1)).trans hHeld.2.2.2.2.1), ((hb.cell (World.block_lt_of_cell? _ _ hHeld.2.2.2.2.2.1)).trans hHeld.2.2.2.2.2.1), ((hb.cell (World.block_lt_of_cell? _ _ hHeld.2.2.2.2.2.2)).trans hHeld.2.2.2.2.2.2)⟩ (fun hHeld => ?_)
    clear hK K
    refine norm_ (a' := ?_) ?_ ?_
    rotate_left
    ·
     show Act.put _ (some 86) _ = _
     simp only [Act.put, List.setIfInBounds_toArray, List.set_cons_zero, List.set_cons_succ, i64_w, i32_w]
     rfl
    refine one_ (i := 6) (N := some 87) #[true, true, true, true, true, true, true, true, true, true, true, true, true, true, true, true, false, false, false, false, false, false, false, false, false] rfl rfl (by kernel_rfl) (by decide) (fun K hK => ?_)
    refine Kd.R_append_rows_step k61 (w0 := w) w.heap.size (by rfl) (.tmp 81) (.tmp 86) 46 61 (.agg #[(.int .u8 0), (.string ⟨#[]⟩), (.int .i64 0)]) 32 rfl Tryz.underlying46 info61 rfl (by decide) (by omega) (.slice Al l.length ql) l [(⟨x1, x2, x3⟩ : S61), (⟨y1, y2, y3⟩ : S61), (⟨u1, u2, u3⟩ : S61)] _ _ _ (fun k_ => k_ ≠ b) (fun _ => False) rfl rfl ?aO ?aR (fun _ _ h => h) (fun _ h => h.elim) ?aF ?aB ?aS ?aL ?_
    case aO => exact Kd.R_below HR3.out HL9.out
    case aR => exact HL9R.out.2.2
    case aF => exact fun k_ hk => by have := blk_lt BB9.out; omega
    case aB => exact below_step HB3.out HL9.out
    case aS => exact below_size (below_step HB3.out HL9.out)
    case aL => have := CL.out; simp at this ⊢; omega
    intro v15 w15 ho hb hg hat
    have BBX := Aside0.mk (blk_grown BB9.out hg (fun e => HR3.out.1 _ e.symm rfl))
    have HO := Aside0.mk (Kd.R_mono ho (fun _ _ => trivial))
    have HBX := Aside0.mk hb
    have hX0 := (blk_cell BBX.out 0).trans (show _ = some (.int .u8 3) from rfl)
    have hX1 := (blk_cell BBX.out 1).trans (show _ = some (.int .i64 a0_1) from rfl)
    have hX2 := (blk_cell BBX.out 2).trans (show _ = some (.string a0_2) from rfl)
    have hX3 := (blk_cell BBX.out 3).trans (show _ = some (.string a0_3) from rfl)
    have hX4 := (blk_cell BBX.out 4).trans (show _ = some (.int .i64 a0_4) from rfl)
    have hX5 := (blk_cell BBX.out 5).trans (show _ = some (.int .u8 a0_5) from rfl)
    have hX6 := (blk_cell BBX.out 6).trans (show _ = some (.string a0_6) from rfl)
    refine hK.out _ _ ⟨hX0, hX1, hX2, hX3, hX4, hX5, hX6⟩ (fun hHeld => ?_)
    clear hK K
    refine norm_ (a' := ?_) ?_ ?_
    rotate_left
    ·
     show Act.put _ (some 87) _ = _
     simp only [Act.put, List.setIfInBounds_toArray, List.set_cons_zero, List.set_cons_succ, i64_w, i32_w]
     rfl
    refine pure_ (i := 16) (N := some 97) (v := ?_) (a' := ?_) #[true, true, true, true, true, true, true, true, true, true, true, true, true, true, true, true, true, false, false, false, false, false, false, false, false] rfl rfl (by kernel_rfl) (fun _ _ _ h => h) (Or.inl ⟨by rfl, ?_⟩) ?_ ?_
    rotate_left
    ·
     intro w'
     go_simp
     with_reducible rfl
    rotate_left
    ·
     simp only [Act.put, List.setIfInBounds_toArray, List.set_cons_zero, List.set_cons_succ, i64_w, i32_w]
     rfl
    refine pure_ (i := 17) (N := some 98) (v := undef) (a' := ?_) #[true, true, true, true, true, true, true, true, true, true, true, true, true, true, true, true, true, true, false, false, false, false, false, false, false] rfl rfl (by kernel_rfl) (fun _ _ _ h => h) (Or.inr ⟨by rfl, rfl⟩) ?_ ?_
    rotate_left
    ·
     simp only [Act.put, List.setIfInBounds_toArray, List.set_cons_zero, List.set_cons_succ, i64_w, i32_w]
     rfl
    refine pure_ (i := 18) (N := some 99) (v := ?_) (a' := ?_) #[true, true, true, true, true, true, true, true, true, true, true, true, true, true, true, true, true, true, true, false, false, false, false, false, false] rfl rfl (by kernel_rfl) (fun _ _ _ h => h) (Or.inl ⟨by rfl, ?_⟩) ?_ ?_
    rotate_left
    ·
     intro w'
     go_simp
     with_reducible rfl
    rotate_left
    ·
     simp only [Act.put, List.setIfInBounds_toArray, List.set_cons_zero, List.set_cons_succ, i64_w, i32_w]
     rfl
    refine pure_ (i := 19) (N := some 100) (v := ?_) (a' := ?_) #[true, true, true, true, true, true, true, true, true, true, true, true, true, true, true, true, true, true, true, true, false, false, false, false, false] rfl rfl (by kernel_rfl) (fun _ _ _ h => h) (Or.inl ⟨by rfl, ?_⟩) ?_ ?_
    rotate_left
    ·
     intro w'
     go_simp
     with_reducible rfl
    rotate_left
    ·
     simp only [Act.put, List.setIfInBounds_toArray, List.set_cons_zero, List.set_cons_succ, i64_w, i32_w]
     rfl
    refine pure_ (i := 20) (N := some 101) (v := undef) (a' := ?_) #[true, true, true, true, true, true, true, true, true, true, true, true, true, true, true, true, true, true, true, true, true, false, false, false, false] rfl rfl (by kernel_rfl) (fun _ _ _ h => h) (Or.inr ⟨by rfl, rfl⟩) ?_ ?_
    rotate_left
    ·
     simp only [Act.put, List.setIfInBounds_toArray, List.set_cons_zero, List.set_cons_succ, i64_w, i32_w]
     rfl
    refine pure_ (i := 21) (N := some 102) (v := undef) (a' := ?_) #[true, true, true, true, true, true, true, true, true, true, true, true, true, true, true, true, true, true, true, true, true, true, false, false, false] rfl rfl (by kernel_rfl) (fun _ _ _ h => h) (Or.inr ⟨by rfl, rfl⟩) ?_ ?_
    rotate_left
    ·
     simp only [Act.put, List.setIfInBounds_toArray, List.set_cons_zero, List.set_cons_succ, i64_w, i32_w]
     rfl
    refine pure_ (i := 22) (N := some 103) (v := ?_) (a' := ?_) #[true, true, true, true, true, true, true, true, true, true, true, true, true, true, true, true, true, true, true, true, true, true, true, false, false] rfl rfl (by kernel_rfl) (fun _ _ _ h => h) (Or.inl ⟨by rfl, ?_⟩) ?_ ?_
    rotate_left
    ·
     intro w'
     go_simp
     with_reducible rfl
    rotate_left
    ·
     simp only [Act.put, List.setIfInBounds_toArray, List.set_cons_zero, List.set_cons_succ, i64_w, i32_w]
     rfl
    refine pure_ (i := 23) (N := some 2) (v := ?_) (a' := ?_) #[true, true, true, true, true, true, true, true, true, true, true, true, true, true, true, true, true, true, true, true, true, true, true, true, false] rfl rfl (by kernel_rfl) (fun _ _ _ h => h) (Or.inl ⟨by rfl, ?_⟩) ?_ ?_
    rotate_left
    ·
     intro w'
     go_simp
     with_reducible rfl
    rotate_left
    ·
     simp only [Act.put, List.setIfInBounds_toArray, List.set_cons_zero, List.set_cons_succ, i64_w, i32_w]
     rfl
    refine pure_ (i := 24) (N := some 3) (v := ?_) (a' := ?_) #[true, true, true, true, true, true, true, true, true, true, true, true, true, true, true, true, true, true, true, true, true, true, true, true, true] rfl rfl (by kernel_rfl) (fun _ _ _ h => h) (Or.inl ⟨by rfl, ?_⟩) ?_ ?_
    rotate_left
    ·
     intro w'
     go_simp
     with_reducible rfl
    rotate_left
    ·
     simp only [Act.put, List.setIfInBounds_toArray, List.set_cons_zero, List.set_cons_succ, i64_w, i32_w]
     rfl
    refine done_ (by kernel_rfl) ?_
    go_wp2
    go_ret2
    exact ⟨_, by rw [R2.out]; first | rfl | (simp; done), HO.out, HBX.out⟩
   | true =>
    cases may with
    | false =>
     go_wp2
     have HBd := Aside0.mk (below_drew1 HB.out)
     refine start_ (n := 25) (S := fun w' => w'.cell? ⟨b, 0, none⟩ = some (.int .u8 3) ∧ w'.cell? ⟨b, 1, none⟩ = some (.int .i64 a0_1) ∧ w'.cell? ⟨b, 2, none⟩ = some (.string a0_2) ∧ w'.cell? ⟨b, 3, none⟩ = some (.string a0_3) ∧ w'.cell? ⟨b, 4, none⟩ = some (.int .i64 a0_4) ∧ w'.cell? ⟨b, 5, none⟩ = some (.int .u8 a0_5) ∧ w'.cell? ⟨b, 6, none⟩ = some (.string a0_6)) (ds := []) #[false, false, false, false, false, false, false, false, false, false, false, false, false, false, false, false, false, false, false, false, false, false, false, false, false] (by kernel_rfl) rfl rfl ⟨c0, c1, c2, c3, c4, c5, c6⟩ (fun hHeld => ?_)
     refine pure_ (i := 0) (N := some 81) (v := ?_) (a' := ?_) #[true, false, false, false, false, false, false, false, false, false, false, false, false, false, false, false, false, false, false, false, false, false, false, false, false] rfl rfl (by kernel_rfl) (fun _ _ _ h => h) (Or.inl ⟨by rfl, ?_⟩) ?_ ?_
     rotate_left
     ·
      intro w'
      go_simp
      with_reducible rfl
     rotate_left
     ·
      simp only [Act.put, List.setIfInBounds_toArray, List.set_cons_zero, List.set_cons_succ, i64_w, i32_w]
      rfl
     refine pure_ (i := 2) (N := some 83) (v := ?_) (a' := ?_) #[true, false, true, false, false, false, false, false, false, false, false, false, false, false, false, false, false, false, false, false, false, false, false, false, false] rfl rfl (by kernel_rfl) (fun _ _ _ h => h) (Or.inl ⟨by rfl, ?_⟩) ?_ ?_
     rotate_left
     ·
      intro w'
      go_simp
      with_reducible rfl
     rotate_left
     ·
      simp only [Act.put, List.setIfInBounds_toArray, List.set_cons_zero, List.set_cons_succ, i64_w, i32_w]
      rfl
     refine pure_ (i := 8) (N := some 89) (v := ?_) (a' := ?_) #[true, false, true, false, false, false, false, false, true, false, false, false, false, false, false, false, false, false, false, false, false, false, false, false, false] rfl rfl (by kernel_rfl) (fun _ _ _ h => h) (Or.inl ⟨by rfl, ?_⟩) ?_ ?_
     rotate_left
     ·
      intro w'
      go_simp
      with_reducible rfl
     rotate_left
     ·
      simp only [Act.put, List.setIfInBounds_toArray, List.set_cons_zero, List.set_cons_succ, i64_w, i32_w]
      rfl
     refine pure_ (i := 10) (N := some 91) (v := ?_) (a' := ?_) #[true, false, true, false, false, false, false, false, true, false, true, false, false, false, false, false, false, false, false, false, false, false, false, false, false] rfl rfl (by kernel_rfl) (fun _ _ _ h => h) (Or.inl ⟨by rfl, ?_⟩) ?_ ?_
     rotate_left
     ·
      intro w'
      go_simp
      with_reducible rfl
     rotate_left
     ·
      simp only [Act.put, List.setIfInBounds_toArray, List.set_cons_zero, List.set_cons_succ, i64_w, i32_w]
      rfl
     refine pure_ (i := 12) (N := some 93) (v := ?_) (a' := ?_) #[true, false, true, false, false, false, false, false, true, false, true, false, true, false, false, false, false, false, false, false, false, false, false, false, false] rfl rfl (by kernel_rfl) (fun _ _ _ h => h) (Or.inl ⟨by rfl, ?_⟩) ?_ ?_
     rotate_left
     ·
      intro w'
      go_simp
      with_reducible rfl
     rotate_left
     ·
      simp only [Act.put, List.setIfInBounds_toArray, List.set_cons_zero, List.set_cons_succ, i64_w, i32_w]
      rfl
     refine take_ (i := 7) (N := some 88) (v := ?_) (a' := ?_) #[true, false, true, false, false, false, false, true, true, false, true, false, true, false, false, false, false, false, false, false, false, false, false, false, false] rfl rfl (by kernel_rfl) (fun _ _ _ h => h) (Or.inl ⟨by rfl, ?_⟩) hHeld ?_ ?_
     rotate_left
     ·
      rintro w' ⟨s0, s1, s2, s3, s4, s5, s6⟩
      go_simp
      with_reducible rfl
     rotate_left
     ·
      simp only [Act.put, List.setIfInBounds_toArray, List.set_cons_zero, List.set_cons_succ, i64_w, i32_w]
      rfl
     refine take_ (i := 9) (N := some 90) (v := ?_) (a' := ?_) #[true, false, true, false, false, false, false, true, true, true, true, false, true, false, false, false, false, false, false, false, false, false, false, false, false] rfl rfl (by kernel_rfl) (fun _ _ _ h => h) (Or.inl ⟨by rfl, ?_⟩) hHeld ?_ ?_
     rotate_left
     ·
      rintro w' ⟨s0, s1, s2, s3, s4, s5, s6⟩
      go_simp
      with_reducible rfl
     rotate_left
     ·
      simp only [Act.put, List.setIfInBounds_toArray, List.set_cons_zero, List.set_cons_succ, i64_w, i32_w]
      rfl
     refine take_ (i := 11) (N := some 92) (v := ?_) (a' := ?_) #[true, false, true, false, false, false, false, true, true, true, true, true, true, false, false, false, false, false, false, false, false, false, false, false, false] rfl rfl (by kernel_rfl) (fun _ _ _ h => h) (Or.inl ⟨by rfl, ?_⟩) hHeld ?_ ?_
     rotate_left
     ·
      rintro w' ⟨s0, s1, s2, s3, s4, s5, s6⟩
      go_simp
      with_reducible rfl
     rotate_left
     ·
      simp only [Act.put, List.setIfInBounds_toArray, List.set_cons_zero, List.set_cons_succ, i64_w, i32_w]
      rfl
     refine take_ (i := 13) (N := some 94) (v := ?_) (a' := ?_) #[true, false, true, false, false, false, false, true, true, true, true, true, true, true, false, false, false, false, false, false, false, false, false, false, false] rfl rfl (by kernel_rfl) (fun _ _ _ h => h) (Or.inl ⟨by rfl, ?_⟩) hHeld ?_ ?_
     rotate_left
     ·
      rintro w' ⟨s0, s1, s2, s3, s4, s5, s6⟩
      go_simp
      with_reducible rfl
     rotate_left
     ·
      simp only [Act.put, List.setIfInBounds_toArray, List.set_cons_zero, List.set_cons_succ, i64_w, i32_w]
      rfl
     refine pure_ (i := 14) (N := some 95) (v := ?_) (a' := ?_) #[true, false, true, false, false, false, false, true, true, true, true, true, true, true, true, false, false, false, false, false, false, false, false, false, false] rfl rfl (by kernel_rfl) (fun _ _ _ h => h) (Or.inl ⟨by rfl, ?_⟩) ?_ ?_
     rotate_left
     ·
      intro w'
      go_simp
      with_reducible rfl
     rotate_left
     ·
      simp only [Act.put, List.setIfInBounds_toArray, List.set_cons_zero, List.set_cons_succ, i64_w, i32_w]
      rfl
     refine pure_ (i := 15) (N := some 96) (v := ?_) (a' := ?_) #[true, false, true, false, false, false, false, true, true, true, true, true, true, true, true, true, false, false, false, false, false, false, false, false, false] rfl rfl (by kernel_rfl) (fun _ _ _ h => h) (Or.inl ⟨by rfl, ?_⟩) ?_ ?_
     rotate_left
     ·
      intro w'
      go_simp
      with_reducible rfl
     rotate_left
     ·
      simp only [Act.put, List.setIfInBounds_toArray, List.set_cons_zero, List.set_cons_succ, i64_w, i32_w]
      rfl
     refine one_ (i := 1) (N := some 82) #[true, true, true, false, false, false, false, true, true, true, true, true, true, true, true, true, false, false, false, false, false, false, false, false, false] rfl rfl (by kernel_rfl) (by decide) (fun K hK => ?_)
     refine goes_ Tryz.func31 (by kernel_rfl) rfl #[.string (⟨#[40]⟩ : ByteArray)] (by rfl) rfl rfl qay1 ?_
     with_reducible refine (line_mark.calls (⟨#[40]⟩ : ByteArray) x1 x2 x3 _ W1.out).mono ?_
     rintro e w11 ⟨rfl, hb⟩
     refine ⟨_, rfl, ?_⟩
     have BB1 := Aside0.mk (blk_below (blk_drew BB.out) hb)
     have HR1 := Aside0.mk (Kd.R_below (Kd.R_drew HR.out) hb)
     have HB1 := Aside0.mk (below_step (HBd.out) hb)
     refine hK.out _ _ ⟨((hb.cell (World.block_lt_of_cell? _ _ hHeld.1)).trans hHeld.1), ((hb.cell (World.block_lt_of_cell? _ _ hHeld.2.1)).trans hHeld.2.1), ((hb.cell (World.block_lt_of_cell? _ _ hHeld.2.2.1)).trans hHeld.2.2.1), ((hb.cell (World.block_lt_of_cell? _ _ hHeld.2.2.2.1)).trans hHeld.2.2.2.1), ((hb.cell (World.block_lt_of_cell? _ _ hHeld.2.2.2.2.1)).trans hHeld.2.2.2.2.1), ((hb.cell (World.block_lt_of_cell? _ _ hHeld.2.2.2.2.2.1)).trans hHeld.2.2.2.2.2.1), ((hb.cell (World.block_lt_of_cell? _ _ hHeld.2.2.2.2.2.2)).trans hHeld.2.2.2.2.2.2)⟩ (fun hHeld => ?_)
     clear hK K
     refine norm_ (a' := ?_) ?_ ?_
     rotate_left
     ·
      show Act.put _ (some 82) _ = _
      simp only [Act.put, List.setIfInBounds_toArray, List.set_cons_zero, List.set_cons_succ, i64_w, i32_w]
      rfl
     refine one_ (i := 3) (N := some 84) #[true, true, true, true, false, false, false, true, true, true, true, true, true, true, true, true, false, false, false, false, false, false, false, false, false] rfl rfl (by kernel_rfl) (by decide) (fun K hK => ?_)
     refine goes_ Tryz.func32 (by kernel_rfl) rfl #[.string rg] (by rfl) rfl rfl qay1 ?_
     with_reducible refine (line_word.calls rg y1 y2 y3 _ W2.out).mono ?_
     rintro e w12 ⟨rfl, hb⟩
     refine ⟨_, rfl, ?_⟩
     have BB2 := Aside0.mk (blk_below (BB1.out) hb)
     have HR2 := Aside0.mk (Kd.R_below (HR1.out) hb)
     have HB2 := Aside0.mk (below_step (HB1.out) hb)
     refine hK.out _ _ ⟨((hb.cell (World.block_lt_of_cell? _ _ hHeld.1)).trans hHeld.1), ((hb.cell (World.block_lt_of_cell? _ _ hHeld.2.1)).trans hHeld.2.1), ((hb.cell (World.block_lt_of_cell? _ _ hHeld.2.2.1)).trans hHeld.2.2.1), ((hb.cell (World.block_lt_of_cell? _ _ hHeld.2.2.2.1)).trans hHeld.2.2.2.1), ((hb.cell (World.block_lt_of_cell? _ _ hHeld.2.2.2.2.1)).trans hHeld.2.2.2.2.1), ((hb.cell (World.block_lt_of_cell? _ _ hHeld.2.2.2.2.2.1)).trans hHeld.2.2.2.2.2.1), ((hb.cell (World.block_lt_of_cell? _ _ hHeld.2.2.2.2.2.2)).trans hHeld.2.2.2.2.2.2)⟩ (fun hHeld => ?_)
     clear hK K
     refine norm_ (a' := ?_) ?_ ?_
     rotate_left
     ·
      show Act.put _ (some 84) _ = _
      simp only [Act.put, List.setIfInBounds_toArray, List.set_cons_zero, List.set_cons_succ, i64_w, i32_w]
      rfl
     refine one_ (i := 4) (N := some 85) #[true, true, true, true, true, false, false, true, true, true, true, true, true, true, true, true, false, false, false, false, false, false, false, false, false] rfl rfl (by kernel_rfl) (by decide) (fun K hK => ?_)
     refine goes_ Tryz.func31 (by kernel_rfl) rfl #[.string (⟨#[41]⟩ : ByteArray)] (by rfl) rfl rfl qay1 ?_
     with_reducible refine (line_mark.calls (⟨#[41]⟩ : ByteArray) u1 u2 u3 _ W3.out).mono ?_
     rintro e w13 ⟨rfl, hb⟩
     refine ⟨_, rfl, ?_⟩
     have BB3 := Aside0.mk (blk_below (BB2.out) hb)
     have HR3 := Aside0.mk (Kd.R_below (HR2.out) hb)
     have HB3 := Aside0.mk (below_step (HB2.out) hb)
     refine hK.out _ _ ⟨((hb.cell (World.block_lt_of_cell? _ _ hHeld.1)).trans hHeld.1), ((hb.cell (World.block_lt_of_cell? _ _ hHeld.2.1)).trans hHeld.2.1), ((hb.cell (World.block_lt_of_cell? _ _ hHeld.2.2.1)).trans hHeld.2.2.1), ((hb.cell (World.block_lt_of_cell? _ _ hHeld.2.2.2.1)).trans hHeld.2.2.2.1), ((hb.cell (World.block_lt_of_cell? _ _ hHeld.2.2.2.2.1)).trans hHeld.2.2.2.2.1), ((hb.cell (World.block_lt_of_cell? _ _ hHeld.2.2.2.2.2.1)).trans hHeld.2.2.2.2.2.1), ((hb.cell (World.block_lt_of_cell? _ _ hHeld.2.2.2.2.2.2)).trans hHeld.2.2.2.2.2.2)⟩ (fun hHeld => ?_)
     clear hK K
     refine norm_ (a' := ?_) ?_ ?_
     rotate_left
     ·
      show Act.put _ (some 85) _ = _
      simp only [Act.put, List.setIfInBounds_toArray, List.set_cons_zero, List.set_cons_succ, i64_w, i32_w]
      rfl
     refine one_ (i := 5) (N := some 86) #[true, true, true, true, true, true, false, true, true, true, true, true, true, true, true, true, false, false, false, false, false, false, false, false, false] rfl rfl (by kernel_rfl) (by decide) (fun K hK => ?_)
     refine Kd.R_lit_step k61 _ 61 ?hg (N := 86) ?hd (xs := [(⟨x1, x2, x3⟩ : S61), (⟨y1, y2, y3⟩ : S61), (⟨u1, u2, u3⟩ : S61)]) (inner := [.int .u8 x1, .string x2, .int .i64 x3, .int .u8 y1, .string y2, .int .i64 y3, .int .u8 u1, .string u2, .int .i64 u3]) (ok := fun _ => True) (okp := fun _ => True) ?hr ?hp (fun _ hk => hk) trivial (Below.refl _ _) (Nat.le_refl _) (by simp) ?_; (case hd => rfl); (case hg => rfl); (case hr => exact qay2); (case hp => exact qay0)
     intro v9 w9 ho hb hg_ hnew_
     obtain ⟨P9, q9, hv9⟩ := Kd.R_slice ho
     subst hv9
     have HL9 := Aside0.mk hb
     have HL9R := Aside0.mk (Kd.R_reads' ho)
     have BB9 := Aside0.mk (blk_below BB3.out hb)
     refine hK.out _ _ ⟨((hb.cell (World.block_lt_of_cell? _ _ hHeld.1)).trans hHeld.1), ((hb.cell (World.block_lt_of_cell? _ _ hHeld.2.1)).trans hHeld.2.1), ((hb.cell (World.block_lt_of_cell? _ _ hHeld.2.2.1)).trans hHeld.2.2.1), ((hb.cell (World.block_lt_of_cell? _ _ hHeld.2.2.2.1)).trans hHeld.2.2.2.1), ((hb.cell (World.block_lt_of_cell? _ _ hHeld.2.2.2.2.1)).trans hHeld.2.2.2.2.1), ((hb.cell (World.block_lt_of_cell? _ _ hHeld.2.2.2.2.2.1)).trans hHeld.2.2.2.2.2.1), ((hb.cell (World.block_lt_of_cell? _ _ hHeld.2.2.2.2.2.2)).trans hHeld.2.2.2.2.2.2)⟩ (fun hHeld => ?_)
     clear hK K
     refine norm_ (a' := ?_) ?_ ?_
     rotate_left
     ·
      show Act.put _ (some 86) _ = _
      simp only [Act.put, List.setIfInBounds_toArray, List.set_cons_zero, List.set_cons_succ, i64_w, i32_w]
      rfl
     refine one_ (i := 6) (N := some 87) #[true, true, true, true, true, true, true, true, true, true, true, true, true, true, true, true, false, false, false, false, false, false, false, false, false] rfl rfl (by kernel_rfl) (by decide) (fun K hK => ?_)
     refine Kd.R_append_rows_step k61 (w0 := w) w.heap.size (by rfl) (.tmp 81) (.tmp 86) 46 61 (.agg #[(.int .u8 0), (.string ⟨#[]⟩), (.int .i64 0)]) 32 rfl Tryz.underlying46 info61 rfl (by decide) (by omega) (.slice Al l.length ql) l [(⟨x1, x2, x3⟩ : S61), (⟨y1, y2, y3⟩ : S61), (⟨u1, u2, u3⟩ : S61)] _ _ _ (fun k_ => k_ ≠ b) (fun _ => False) rfl rfl ?aO ?aR (fun _ _ h => h) (fun _ h => h.elim) ?aF ?aB ?aS ?aL ?_
     case aO => exact Kd.R_below HR3.out HL9.out
     case aR => exact HL9R.out.2.2
     case aF => exact fun k_ hk => by have := blk_lt BB9.out; omega
     case aB => exact below_step HB3.out HL9.out
     case aS => exact below_size (below_step HB3.out HL9.out)
     case aL => have := CL.out; simp at this ⊢; omega
     intro v15 w15 ho hb hg hat
     have BBX := Aside0.mk (blk_grown BB9.out hg (fun e => HR3.out.1 _ e.symm rfl))
     have HO := Aside0.mk (Kd.R_mono ho (fun _ _ => trivial))
     have HBX := Aside0.mk hb
     have hX0 := (blk_cell BBX.out 0).trans (show _ = some (.int .u8 3) from rfl)
     have hX1 := (blk_cell BBX.out 1).trans (show _ = some (.int .i64 a0_1) from rfl)
     have hX2 := (blk_cell BBX.out 2).trans (show _ = some (.string a0_2) from rfl)
     have hX3 := (blk_cell BBX.out 3).trans (show _ = some (.string a0_3) from rfl)
     have hX4 := (blk_cell BBX.out 4).trans (show _ = some (.int .i64 a0_4) from rfl)
     have hX5 := (blk_cell BBX.out 5).trans (show _ = some (.int .u8 a0_5) from rfl)
     have hX6 := (blk_cell BBX.out 6).trans (show _ = some (.string a0_6) from rfl)
     refine hK.out _ _ ⟨hX0, hX1, hX2, hX3, hX4, hX5, hX6⟩ (fun hHeld => ?_)
     clear hK K
     refine norm_ (a' := ?_) ?_ ?_
     rotate_left
     ·
      show Act.put _ (some 87) _ = _
      simp only [Act.put, List.setIfInBounds_toArray, List.set_cons_zero, List.set_cons_succ, i64_w, i32_w]
      rfl
     refine pure_ (i := 16) (N := some 97) (v := ?_) (a' := ?_) #[true, true, true, true, true, true, true, true, true, true, true, true, true, true, true, true, true, false, false, false, false, false, false, false, false] rfl rfl (by kernel_rfl) (fun _ _ _ h => h) (Or.inl ⟨by rfl, ?_⟩) ?_ ?_
     rotate_left
     ·
      intro w'
      go_simp
      with_reducible rfl
     rotate_left
     ·
      simp only [Act.put, List.setIfInBounds_toArray, List.set_cons_zero, List.set_cons_succ, i64_w, i32_w]
      rfl
     refine pure_ (i := 17) (N := some 98) (v := ?_) (a' := ?_) #[true, true, true, true, true, true, true, true, true, true, true, true, true, true, true, true, true, true, false, false, false, false, false, false, false] rfl rfl (by kernel_rfl) (fun _ _ _ h => h) (Or.inl ⟨by rfl, ?_⟩) ?_ ?_
     rotate_left
     ·
      intro w'
      go_simp
      with_reducible rfl
     rotate_left
     ·
      simp only [Act.put, List.setIfInBounds_toArray, List.set_cons_zero, List.set_cons_succ, i64_w, i32_w]
      rfl
     refine pure_ (i := 18) (N := some 99) (v := ?_) (a' := ?_) #[true, true, true, true, true, true, true, true, true, true, true, true, true, true, true, true, true, true, true, false, false, false, false, false, false] rfl rfl (by kernel_rfl) (fun _ _ _ h => h) (Or.inl ⟨by rfl, ?_⟩) ?_ ?_
     rotate_left
     ·
      intro w'
      go_simp
      with_reducible rfl
     rotate_left
     ·
      simp only [Act.put, List.setIfInBounds_toArray, List.set_cons_zero, List.set_cons_succ, i64_w, i32_w]
      rfl
     refine pure_ (i := 19) (N := some 100) (v := ?_) (a' := ?_) #[true, true, true, true, true, true, true, true, true, true, true, true, true, true, true, true, true, true, true, true, false, false, false, false, false] rfl rfl (by kernel_rfl) (fun _ _ _ h => h) (Or.inl ⟨by rfl, ?_⟩) ?_ ?_
     rotate_left
     ·
      intro w'
      go_simp
      with_reducible rfl
     rotate_left
     ·
      simp only [Act.put, List.setIfInBounds_toArray, List.set_cons_zero, List.set_cons_succ, i64_w, i32_w]
      rfl
     refine pure_ (i := 20) (N := some 101) (v := undef) (a' := ?_) #[true, true, true, true, true, true, true, true, true, true, true, true, true, true, true, true, true, true, true, true, true, false, false, false, false] rfl rfl (by kernel_rfl) (fun _ _ _ h => h) (Or.inr ⟨by rfl, rfl⟩) ?_ ?_
     rotate_left
     ·
      simp only [Act.put, List.setIfInBounds_toArray, List.set_cons_zero, List.set_cons_succ, i64_w, i32_w]
      rfl
     refine pure_ (i := 21) (N := some 102) (v := undef) (a' := ?_) #[true, true, true, true, true, true, true, true, true, true, true, true, true, true, true, true, true, true, true, true, true, true, false, false, false] rfl rfl (by kernel_rfl) (fun _ _ _ h => h) (Or.inr ⟨by rfl, rfl⟩) ?_ ?_
     rotate_left
     ·
      simp only [Act.put, List.setIfInBounds_toArray, List.set_cons_zero, List.set_cons_succ, i64_w, i32_w]
      rfl
     refine pure_ (i := 22) (N := some 103) (v := ?_) (a' := ?_) #[true, true, true, true, true, true, true, true, true, true, true, true, true, true, true, true, true, true, true, true, true, true, true, false, false] rfl rfl (by kernel_rfl) (fun _ _ _ h => h) (Or.inl ⟨by rfl, ?_⟩) ?_ ?_
     rotate_left
     ·
      intro w'
      go_simp
      with_reducible rfl
     rotate_left
     ·
      simp only [Act.put, List.setIfInBounds_toArray, List.set_cons_zero, List.set_cons_succ, i64_w, i32_w]
      rfl
     refine pure_ (i := 23) (N := some 2) (v := ?_) (a' := ?_) #[true, true, true, true, true, true, true, true, true, true, true, true, true, true, true, true, true, true, true, true, true, true, true, true, false] rfl rfl (by kernel_rfl) (fun _ _ _ h => h) (Or.inl ⟨by rfl, ?_⟩) ?_ ?_
     rotate_left
     ·
      intro w'
      go_simp
      with_reducible rfl
     rotate_left
     ·
      simp only [Act.put, List.setIfInBounds_toArray, List.set_cons_zero, List.set_cons_succ, i64_w, i32_w]
      rfl
     refine pure_ (i := 24) (N := some 3) (v := ?_) (a' := ?_) #[true, true, true, true, true, true, true, true, true, true, true, true, true, true, true, true, true, true, true, true, true, true, true, true, true] rfl rfl (by kernel_rfl) (fun _ _ _ h => h) (Or.inl ⟨by rfl, ?_⟩) ?_ ?_
     rotate_left
     ·
      intro w'
      go_simp
      with_reducible rfl
     rotate_left
     ·
      simp only [Act.put, List.setIfInBounds_toArray, List.set_cons_zero, List.set_cons_succ, i64_w, i32_w]
      rfl
     refine done_ (by kernel_rfl) ?_
     go_wp2
     go_ret2
     exact ⟨_, by rw [R2.out]; first | rfl | (simp; done), HO.out, HBX.out⟩
    | true =>
     go_wp2
     (first | (go_region_held3 (fun w' => w'.cell? ⟨b, 0, none⟩ = some (.int .u8 3) ∧ w'.cell? ⟨b, 1, none⟩ = some (.int .i64 a0_1) ∧ w'.cell? ⟨b, 2, none⟩ = some (.string a0_2) ∧ w'.cell? ⟨b, 3, none⟩ = some (.string a0_3) ∧ w'.cell? ⟨b, 4, none⟩ = some (.int .i64 a0_4) ∧ w'.cell? ⟨b, 5, none⟩ = some (.int .u8 a0_5) ∧ w'.cell? ⟨b, 6, none⟩ = some (.string a0_6)) (first | exact told_S (blk_drew BB.out) | exact told_S BB1.out | exact told_S BB2.out | exact told_S BB3.out | exact told_S (blk_alloc BB3.out _) | exact told_S BBX.out | fail) (first | (go_at_call 31; (with_reducible refine (line_mark.calls (⟨#[40]⟩ : ByteArray) x1 x2 x3 _ W1.out).mono ?_); rintro e w11 ⟨rfl, hb⟩; have BB1 := Aside0.mk (blk_below (blk_drew BB.out) hb); have HR1 := Aside0.mk (Kd.R_below (Kd.R_drew HR.out) hb); have HB1 := Aside0.mk (below_step (below_drew1 HB.out) hb); clear hb) | (go_at_call 32; (with_reducible refine (line_word.calls rg y1 y2 y3 _ W2.out).mono ?_); rintro e w12 ⟨rfl, hb⟩; have BB2 := Aside0.mk (blk_below (BB1.out) hb); have HR2 := Aside0.mk (Kd.R_below (HR1.out) hb); have HB2 := Aside0.mk (below_step (HB1.out) hb); clear hb) | (go_at_call 31; (with_reducible refine (line_mark.calls (⟨#[41]⟩ : ByteArray) u1 u2 u3 _ W3.out).mono ?_); rintro e w13 ⟨rfl, hb⟩; have BB3 := Aside0.mk (blk_below (BB2.out) hb); have HR3 := Aside0.mk (Kd.R_below (HR2.out) hb); have HB3 := Aside0.mk (below_step (HB2.out) hb); clear hb) | (refine Kd.R_append_rows_step k61 (w0 := w) w.heap.size (by rfl) (.tmp 81) (.tmp 86) 46 61 (.agg #[(.int .u8 0), (.string ⟨#[]⟩), (.int .i64 0)]) 32 rfl Tryz.underlying46 info61 rfl (by decide) (by omega) (.slice Al l.length ql) l [(⟨x1, x2, x3⟩ : S61), (⟨y1, y2, y3⟩ : S61), (⟨u1, u2, u3⟩ : S61)] _ _ _ (fun k_ => k_ ≠ b) (fun _ => False) rfl rfl ?aO ?aR (fun _ _ h => h) (fun _ h => h.elim) ?aF ?aB ?aS ?aL ?_; (case aO => exact Kd.R_alloc HR3.out _); (case aR => exact (Kd.R_reads' (lit_row k61 (base := w.heap.size) (Reps.c3 (show Kd.M k61 _ _ _ (⟨x1, x2, x3⟩ : S61) [.int .u8 x1, .string x2, .int .i64 x3] from k61_mkM _ _ _ (⟨x1, x2, x3⟩ : S61)) (Reps.c3 (show Kd.M k61 _ _ _ (⟨y1, y2, y3⟩ : S61) [.int .u8 y1, .string y2, .int .i64 y3] from k61_mkM _ _ _ (⟨y1, y2, y3⟩ : S61)) (Reps.c3 (show Kd.M k61 _ _ _ (⟨u1, u2, u3⟩ : S61) [.int .u8 u1, .string u2, .int .i64 u3] from k61_mkM _ _ _ (⟨u1, u2, u3⟩ : S61)) (Reps.none _ _)))) (below_size HB3.out) (by simp))).2.2); (case aF => exact fun k_ hk => by have := blk_lt BB3.out; simp at hk; omega); (case aB => exact below_alloc HB3.out _); (case aS => exact below_size (below_alloc HB3.out _)); (case aL => have := CL.out; simp at this ⊢; omega); intro v15 w15 ho hb hg hat; have BBX := Aside0.mk (blk_grown (blk_alloc BB3.out _) hg (fun e => HR3.out.1 _ e.symm rfl)); have HO := Aside0.mk (Kd.R_mono ho (fun _ _ => trivial)); have HBX := Aside0.mk hb; clear ho hb hg hat) | fail)) | fail)
     all_goals
      go_wp2
      go_ret2
      exact ⟨_, by rw [R2.out]; first | rfl | (simp; done), HO.out, HBX.out⟩
  rw [if_neg k3] at hj
  have e3 : (a0_0 == 3) = false := beq_eq_false_iff_ne.2 k3
  cases hj
  go_wp2
  go_ret2
  exact ⟨_, rfl, Kd.R_nil _ _ _ _ _, HB.out⟩

end Go.Proofs.YtbfndlfemhidaaaGreatDoor.P
