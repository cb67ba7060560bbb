/- Texts of this seat in one (Px13), what nothing speaks of left out: by pack.py, a program of this session. -/
import Derived.Test.YtbfndlfemhidaaaGreatDoorPx0
import Derived.Test.YtbfndlfemhidaaaGreatDoorPx2
import Derived.Test.YtbfndlfemhidaaaGreatDoorPx3
import Derived.Test.YtbfndlfemhidaaaGreatDoorPx4
import Derived.Test.YtbfndlfemhidaaaGreatDoorPx10
import Derived.Test.YtbfndlfemhidaaaGreatDoorPx11
import Derived.Test.YtbfndlfemhidaaaGreatDoorPx12
namespace Go.Proofs.YtbfndlfemhidaaaGreatDoor.P
open Go.RowKit Go.Proofs.YtbfndlfemhidaaaGreatDoor.LexP Go.Proofs.YtbfndlfemhidaaaGreatDoorW.PrintWords Go.Proofs.YtbfndlfemhidaaaGreatDoorW.PrintLast Go.Proofs.YtbfndlfemhidaaaGreatDoorW.PrintMore
theorem qbf1 {P : Prop} (h : P := by first | (go_simp; done) | (go_simp; rfl)) : P := h
theorem qbf0 {P : Prop} (h : P := by have := (List.getElem?_eq_some_iff.1 ht).1; omega) : P := h
attribute [local go_sem] max2_int min2_int max_two min_two max_three min_three max_four min_four   -- for this text's walks alone
set_option linter.unusedVariables false
set_option linter.unusedSimpArgs false


section
open Go.Proofs.YtbfndlfemhidaaaGreatDoor.Lex
attribute [local go_sem high] eqA61
namespace LD
theorem infoA : (Tryz.prog.info? 40).map (fun i => (i.zero, i.size, i.bytes)) = some (some (.agg (aV z40)), 7, 80) := by kernel_rfl
theorem args_fuel (l : List S61) : ∀ (d d' a : Nat) (out : List XA), l.length - a ≤ d → l.length - a ≤ d' → argsB l (d + 1) a out = argsB l (d' + 1) a out
 | d, d', a, out, h, h' => by
  unfold argsB
  by_cases c : l.length ≤ a
  ·
   rw [if_pos c, if_pos c]
  ·
   rw [if_neg c, if_neg c]
   split
   ·
    rfl
   ·
    cases hq : argB l (if out = [] then a else a + 1) with
    | inr er => rfl
    | inl r =>
     obtain ⟨x, a'⟩ := r
     simp only
     split
     ·
      rfl
     ·
      have hp := arg_lt hq
      have : a < a' := by
       split at hp <;> omega
      cases d with
      | zero => omega
      | succ d =>
       cases d' with
       | zero => omega
       | succ d' => exact args_fuel l d d' a' _ (by omega) (by omega)
def ArgsPost (w0 W : World) (g : Nat) (r : Sum (List XA) Nat) (e : Ending) (W' : World) : Prop := match r with
 | .inl out => ∃ v, e = .returned (.tuple #[v, .int .i64 0]) ∧ Kd.R k40 40 W' W.heap.size (fun k => k ≠ g) v out ∧ FR W W' g ∧ Below w0.heap.size w0 W'
 | .inr er => ∃ v, e = .returned (.tuple #[v, .int .i64 (er : Int)]) ∧ Kd.R k40 40 W' W.heap.size (fun k => k ≠ g) v [] ∧ FR W W' g ∧ Below w0.heap.size w0 W'
theorem R_fr {d : Kd XA} {e base g : Nat} {W W' : World} {v : Value} {xs : List XA} (h : Kd.R d e W base (fun k => k ≠ g) v xs) (hf : FR W W' g) : Kd.R d e W' base (fun k => k ≠ g) v xs := Kd.R_step h (fun k ho hlt => hf.keep k hlt ho)
theorem put7 {W : World} {q t : Nat} {a0 b0 d0 e0 f0 i0 j0 a b d e f i j : Value} (h : W.heap[q]? = some (.cells #[a0, b0, d0, e0, f0, i0, j0] t (0, 0))) : (((((((W.setCell ⟨q, 0, none⟩ a).setCell ⟨q, 1, none⟩ b).setCell ⟨q, 2, none⟩ d).setCell ⟨q, 3, none⟩ e).setCell ⟨q, 4, none⟩ f).setCell ⟨q, 5, none⟩ i).setCell ⟨q, 6, none⟩ j).heap[q]? = some (.cells #[a, b, d, e, f, i, j] t (0, 0)) := (blk_put (cs' := #[a, b, d, e, f, i, j]) (blk_put (cs' := #[a, b, d, e, f, i, j0]) (blk_put (cs' := #[a, b, d, e, f, i0, j0]) (blk_put (cs' := #[a, b, d, e, f0, i0, j0]) (blk_put (cs' := #[a, b, d, e0, f0, i0, j0]) (blk_put (cs' := #[a, b, d0, e0, f0, i0, j0]) (blk_put (cs' := #[a, b0, d0, e0, f0, i0, j0]) h 0 _ rfl) 1 _ rfl) 2 _ rfl) 3 _ rfl) 4 _ rfl) 5 _ rfl) 6 _ rfl)
set_option maxHeartbeats 8000000 in
set_option maxRecDepth 100000 in
theorem args_walk (w0 W : World) (g : Nat) (A : Option Addr) (c : Nat) (l : List S61) (a : Nat) (hl : l.length ≤ 1000000) (ha : a ≤ l.length) (ok : okB l) (hT : Lib.TabIs Tryz.prog w0 "internal/strconv.uint64pow10" .u64 Lib.pow10Tab) (hD : LexW.LexD w0) (hM : ExW.ModsAt w0) (hG : LiW.RegsAt w0) (h : RD w0 W g A c l a) (res : Sum (List XA) Nat) (hres : argsB l (l.length + 1) a [] = res) :
  Calls Tryz.prog 29 #[.pointer (some ⟨g, 0, none⟩)] W fun e W' => ArgsPost w0 W g res e W' := by
 have HR := Aside0.mk h
 have HT := Aside0.mk hT
 have HD := Aside0.mk hD
 have HM := Aside0.mk hM
 have HG := Aside0.mk hG
 have HL := Aside0.mk hl
 have HOK := Aside0.mk ok
 have HA := Aside0.mk ha
 have HGL0 := Aside0.mk (blk_lt h.blk)
 have HW0 := Aside0.mk h.bel.size
 have RES := Aside0.mk hres
 obtain ⟨b0, hb0⟩ : ∃ b, decide (l.length ≤ a) = b := ⟨_, rfl⟩
 have HE := Aside0.mk hb0
 clear h hl ha ok hT hD hM hG hres hb0
 go_enter Tryz.func29, Tryz.ntmps29
 go_wp2_with (first | (go_at_call 27; (with_reducible refine (end_walk w0 _ g A c l a HR.out b0 HE.out).mono ?_); rintro e w1 ⟨rfl, ⟨nd, rfl⟩⟩))
 go_loopw [2, 3, 4] (fun v2 v3 v4 wx => ∃ (a : Nat) (out : List XA) (m : Bool), v3 = .int .i64 0 ∧ v4 = .bool m ∧ Aside0 (m = !decide (l.length ≤ a)) ∧ Aside0 (a ≤ l.length ∧ argsB l (l.length + 1) a out = res) ∧ Aside0 (Kd.R k40 40 wx W.heap.size (fun k => k ≠ g) v2 out) ∧ Aside0 (out.length ≤ 8) ∧ Aside0 (RD w0 wx g A c l a) ∧ Aside0 (FR W wx g)) (fun v2 _ _ _ => match v2 with | .slice _ n _ => 9 - n | _ => 0)
 case atStart => exact ⟨a, [], !b0, rfl, rfl, ⟨by rw [HE.out]⟩, ⟨HA.out, RES.out⟩, ⟨Kd.R_nil _ _ _ _ _⟩, ⟨by simp⟩, ⟨HR.out.drewN nd⟩, ⟨FR.same rfl⟩⟩
 case round =>
  clear HR HE HA RES
  obtain ⟨a, out, m, rfl, rfl, HMM, HK, HO, HN, HR, HF⟩ := hrel
  have HGL := HGL0
  have hb0 : wrap64 ((a : Int) + 0) = (a : Int) := by have := HK.out.1; have := HL.out; unfold wrap64; omega
  have hk := HK.out.2
  rw [argsB] at hk
  by_cases he : l.length ≤ a
  ·
   rw [if_pos he] at hk
   obtain rfl : m = false := by rw [HMM.out, decide_eq_true he]; rfl
   obtain ⟨A2, q2, rfl⟩ := Kd.R_slice HO.out
   have RES := Aside0.mk hk
   clear hk he HMM
   go_wp2
   go_ret2
   rw [← RES.out]
   exact ⟨_, rfl, HO.out, HF.out, HR.out.bel⟩
  rw [if_neg he] at hk
  obtain rfl : m = true := by rw [HMM.out, decide_eq_false he]; rfl
  have HLT := Aside0.mk he
  clear he HMM
  obtain ⟨A2, q2, rfl⟩ := Kd.R_slice HO.out
  by_cases ho : out = []
  ·
   subst ho
   rw [if_neg (by simp), if_pos rfl] at hk
   have HB := Aside0.mk HK.out.1
   cases hq : argB l a with
   | inr er =>
    rw [hq] at hk
    have RES := Aside0.mk hk
    have HQ := Aside0.mk hq
    have hz : ((er : Int) != 0) = true := bne_iff_ne.2 (by have := arg_er hq; omega)
    clear hk hq
    go_wp2_with (first | (go_at_call 47; (with_reducible refine (arg_no w0 _ g A c l a HL.out HB.out HOK.out HT.out HD.out HM.out HG.out HR.out er HQ.out).mono ?_); rintro e w3 ⟨x, rfl, hf, a2, hr⟩; have F3 := Aside0.mk ((HF.out).trans hf); have HR3 := Aside0.mk hr; clear hf hr) | ((with_reducible refine gate_dst (N := 5) rfl ?_); refine box_event ?hg (N := 5) ?hd (cs := #[.int .u8 0, .int .i64 0, .string (⟨#[]⟩ : ByteArray), .string (⟨#[]⟩ : ByteArray), .int .i64 0, .int .u8 0, .string (⟨#[]⟩ : ByteArray)]) (t := 40) ?hr ?_; (case hd => rfl); (case hg => rfl); (case hr => exact qbf1); intro q hg w4 hbox hb; have HB4 := Aside0.mk hb; have BQ4 := Aside0.mk hbox; have GQ : Aside0 (w3.heap.size ≤ q) := ⟨by rw [hg]; exact Nat.le_refl _⟩; have c0 := bc0 hbox; have cf0 := blk_frozen hbox 0; have c1 := bc1 hbox; have cf1 := blk_frozen hbox 1; have c2 := bc2 hbox; have cf2 := blk_frozen hbox 2; have c3 := bc3 hbox; have cf3 := blk_frozen hbox 3; have c4 := bc4 hbox; have cf4 := blk_frozen hbox 4; have c5 := bc5 hbox; have cf5 := blk_frozen hbox 5; have c6 := bc6 hbox; have cf6 := blk_frozen hbox 6;  clear hb hbox hg) | ((with_reducible refine gate_store (t := 40) (p := 5) (v := .tmp 30) rfl ?_); refine store_event (t := 40) (p := 5) (v := .tmp 30) (w1 := (((((((w4.setCell ⟨q, 0, none⟩ (.int .u8 x.f0)).setCell ⟨q, 1, none⟩ (.int .i64 x.f1)).setCell ⟨q, 2, none⟩ (.string x.f2.f0)).setCell ⟨q, 3, none⟩ (.string x.f2.f1)).setCell ⟨q, 4, none⟩ (.int .i64 x.f2.f2)).setCell ⟨q, 5, none⟩ (.int .u8 x.f2.f3)).setCell ⟨q, 6, none⟩ (.string x.f3))) ?hg ?ho ?hn ?hr ?_; (case ho => rfl); (case hg => rfl); (case hn => rfl); (case hr => exact qbf1); intro w5 hw5; have BQ5 : Aside0 (w5.heap[q]? = some (.cells #[.int .u8 x.f0, .int .i64 x.f1, .string x.f2.f0, .string x.f2.f1, .int .i64 x.f2.f2, .int .u8 x.f2.f3, .string x.f3] 40 (0, 0))) := ⟨by rw [hw5]; exact put7 BQ4.out⟩; have HB5 : Aside0 (Below w3.heap.size w3 w5) := ⟨by rw [hw5]; exact (below_set (below_set (below_set (below_set (below_set (below_set (below_set (HB4.out) GQ.out) GQ.out) GQ.out) GQ.out) GQ.out) GQ.out) GQ.out)⟩; clear hw5 c0 cf0 c1 cf1 c2 cf2 c3 cf3 c4 cf4 c5 cf5 c6 cf6; have c0 := bc0 BQ5.out; have cf0 := blk_frozen BQ5.out 0; have c1 := bc1 BQ5.out; have cf1 := blk_frozen BQ5.out 1; have c2 := bc2 BQ5.out; have cf2 := blk_frozen BQ5.out 2; have c3 := bc3 BQ5.out; have cf3 := blk_frozen BQ5.out 3; have c4 := bc4 BQ5.out; have cf4 := blk_frozen BQ5.out 4; have c5 := bc5 BQ5.out; have cf5 := blk_frozen BQ5.out 5; have c6 := bc6 BQ5.out; have cf6 := blk_frozen BQ5.out 6;  skip))
    go_ret2
    rw [← RES.out]
    exact ⟨_, rfl, Kd.R_nil _ _ _ _ _, F3.out.trans (FR.of_below HB5.out), below_step HR3.out.bel HB5.out⟩
   | inl r =>
    obtain ⟨x, a'⟩ := r
    rw [hq] at hk
    simp only at hk
    have hp := arg_lt hq
    have HQ := Aside0.mk hq
    clear hq
    rw [if_neg (by simp)] at hk
    obtain ⟨d, hd⟩ : ∃ d, l.length = d + 1 := ⟨l.length - 1, by have := HLT.out; omega⟩
    have hfu : argsB l (l.length + 1) a' (([] : List XA) ++ [x]) = res := by
     rw [args_fuel l l.length d a' _ (by omega) (by omega), ← hd]
     exact hk
    have KK := Aside0.mk (And.intro hp.2 hfu)
    obtain ⟨b7, hb7⟩ : ∃ b, decide (l.length ≤ a') = b := ⟨_, rfl⟩
    have HE7 := Aside0.mk hb7
    clear hk hd hfu hb7 hp
    go_wp2_with (first | (go_at_call 47; (with_reducible refine (arg_ok w0 _ g A c l a HL.out HB.out HOK.out HT.out HD.out HM.out HG.out HR.out x a' HQ.out).mono ?_); rintro e w3 ⟨rfl, hf, hr⟩; have F3 := Aside0.mk ((HF.out).trans hf); have R3 := Aside0.mk (R_fr (HO.out) (((FR.same rfl : FR wr wr g)).trans hf)); have HR3 := Aside0.mk hr; clear hf hr) | ((with_reducible refine gate_dst (N := 5) rfl ?_); refine box_event ?hg (N := 5) ?hd (cs := #[.int .u8 0, .int .i64 0, .string (⟨#[]⟩ : ByteArray), .string (⟨#[]⟩ : ByteArray), .int .i64 0, .int .u8 0, .string (⟨#[]⟩ : ByteArray)]) (t := 40) ?hr ?_; (case hd => rfl); (case hg => rfl); (case hr => exact qbf1); intro q hg w4 hbox hb; have HB4 := Aside0.mk hb; have BQ4 := Aside0.mk hbox; have GQ : Aside0 (w3.heap.size ≤ q) := ⟨by rw [hg]; exact Nat.le_refl _⟩; have c0 := bc0 hbox; have cf0 := blk_frozen hbox 0; have c1 := bc1 hbox; have cf1 := blk_frozen hbox 1; have c2 := bc2 hbox; have cf2 := blk_frozen hbox 2; have c3 := bc3 hbox; have cf3 := blk_frozen hbox 3; have c4 := bc4 hbox; have cf4 := blk_frozen hbox 4; have c5 := bc5 hbox; have cf5 := blk_frozen hbox 5; have c6 := bc6 hbox; have cf6 := blk_frozen hbox 6;  clear hb hbox hg) | ((with_reducible refine gate_store (t := 40) (p := 5) (v := .tmp 30) rfl ?_); refine store_event (t := 40) (p := 5) (v := .tmp 30) (w1 := (((((((w4.setCell ⟨q, 0, none⟩ (.int .u8 x.f0)).setCell ⟨q, 1, none⟩ (.int .i64 x.f1)).setCell ⟨q, 2, none⟩ (.string x.f2.f0)).setCell ⟨q, 3, none⟩ (.string x.f2.f1)).setCell ⟨q, 4, none⟩ (.int .i64 x.f2.f2)).setCell ⟨q, 5, none⟩ (.int .u8 x.f2.f3)).setCell ⟨q, 6, none⟩ (.string x.f3))) ?hg ?ho ?hn ?hr ?_; (case ho => rfl); (case hg => rfl); (case hn => rfl); (case hr => exact qbf1); intro w5 hw5; have BQ5 : Aside0 (w5.heap[q]? = some (.cells #[.int .u8 x.f0, .int .i64 x.f1, .string x.f2.f0, .string x.f2.f1, .int .i64 x.f2.f2, .int .u8 x.f2.f3, .string x.f3] 40 (0, 0))) := ⟨by rw [hw5]; exact put7 BQ4.out⟩; have HB5 : Aside0 (Below w3.heap.size w3 w5) := ⟨by rw [hw5]; exact (below_set (below_set (below_set (below_set (below_set (below_set (below_set (HB4.out) GQ.out) GQ.out) GQ.out) GQ.out) GQ.out) GQ.out) GQ.out)⟩; clear hw5 c0 cf0 c1 cf1 c2 cf2 c3 cf3 c4 cf4 c5 cf5 c6 cf6; have c0 := bc0 BQ5.out; have cf0 := blk_frozen BQ5.out 0; have c1 := bc1 BQ5.out; have cf1 := blk_frozen BQ5.out 1; have c2 := bc2 BQ5.out; have cf2 := blk_frozen BQ5.out 2; have c3 := bc3 BQ5.out; have cf3 := blk_frozen BQ5.out 3; have c4 := bc4 BQ5.out; have cf4 := blk_frozen BQ5.out 4; have c5 := bc5 BQ5.out; have cf5 := blk_frozen BQ5.out 5; have c6 := bc6 BQ5.out; have cf6 := blk_frozen BQ5.out 6;  skip) | ((with_reducible refine gate_builtin (b := .append) (xs := #[.tmp 38, .tmp 40]) rfl ?_); at_builtin; refine Kd.R_append k40 (w0 := w5) (W := w5) W.heap.size rfl (.tmp 38) (.tmp 40) 23 40 (.agg (aV z40)) 80 rfl Tryz.underlying23 infoA rfl (by decide) (by omega) (.slice A2 _ q2) _ x [.int .u8 x.f0, .int .i64 x.f1, .string x.f2.f0, .string x.f2.f1, .int .i64 x.f2.f2, .int .u8 x.f2.f3, .string x.f3] (fun k => k ≠ g) (fun _ => False) rfl rfl ?aP (fun _ hk => hk.elim) ?aF (Kd.R_below R3.out HB5.out) ?aB ?aS ?aL ?_; (case aP => exact k40_mkM _ _ _ x); (case aF => exact fun k hk => by have := HGL.out; have := F3.out.size; have := HB5.out.size; omega); (case aB => exact Below.refl _ _); (case aS => exact Nat.le_trans F3.out.size HB5.out.size); (case aL => have := HN.out; first | omega | (simp; omega) | (simp; done)); intro v7 w7 ho hb7 hg7 _; obtain ⟨A7, q7, rfl⟩ := Kd.R_slice ho; have R7 := Aside0.mk ho; have F7 : Aside0 (FR W w7 g) := ⟨⟨Nat.le_trans F3.out.size (Nat.le_trans HB5.out.size hb7.size), fun k hk hn => (hb7.block k hk).trans ((HB5.out.block k (Nat.lt_of_lt_of_le hk F3.out.size)).trans (F3.out.keep k hk hn))⟩⟩; have HR7 : Aside0 (RD w0 w7 g A c l a') := ⟨⟨(hb7.block g HGL.out).trans (blk_below HR3.out.blk HB5.out), HR3.out.ge, below_weaken (below_step HR3.out.bel HB5.out) HW0.out hb7, HR3.out.row, HR3.out.cap⟩⟩; clear ho hb7 hg7) | (go_at_call 27; (with_reducible refine (end_walk w0 _ g A c l a' HR7.out b7 HE7.out).mono ?_); rintro e w8 ⟨rfl, ⟨nd8, rfl⟩⟩))
    go_roundw
    case rel => exact ⟨a', ([] : List XA) ++ [x], !b7, rfl, rfl, ⟨by rw [HE7.out]⟩, KK, ⟨Kd.R_drewN R7.out nd8⟩, ⟨by have := HN.out; first | (simp; done) | (simp; omega)⟩, ⟨HR7.out.drewN nd8⟩, ⟨F7.out.trans (FR.same rfl)⟩⟩
    case measure => first | (simp; done) | (simp; omega)
  ·
   have n0 : 0 < out.length := List.length_pos_iff.2 ho
   have o1 : decide (0 < out.length) = true := decide_eq_true n0
   have o2 := eq_true n0
   obtain ⟨a1, e1⟩ : ∃ x, x = a + 1 := ⟨_, rfl⟩
   have hb1 : wrap64 ((a : Int) + 1) = (a1 : Int) := by have := HK.out.1; have := HL.out; unfold wrap64; omega
   have HB := Aside0.mk (show a1 ≤ l.length by have := HLT.out; omega)
   cases hm : markB l a 44 with
   | false =>
    rw [if_pos ⟨ho, hm⟩] at hk
    have RES := Aside0.mk hk
    have HC := Aside0.mk hm
    clear hk hm ho n0 e1
    go_wp2_with (first | (go_at_call 44; (with_reducible refine (is_walk w0 _ g A c l a a 0 44 hb0 HR.out false HC.out).mono ?_); rintro e w2 ⟨rfl, ⟨nd2, rfl⟩⟩; have y1 := HR.out.cell1; have yf := blk_frozen HR.out.blk 1))
    go_ret2
    rw [← RES.out]
    exact ⟨_, rfl, Kd.R_nil _ _ _ _ _, HF.out.trans (FR.same (W' := wr.drewN nd2) rfl), (HR.out.drewN nd2).bel⟩
   | true =>
    rw [if_neg (by rw [hm]; simp), if_neg ho, ← e1] at hk
    have HC := Aside0.mk hm
    clear hm ho n0 e1
    cases hq : argB l a1 with
    | inr er =>
     rw [hq] at hk
     have RES := Aside0.mk hk
     have HQ := Aside0.mk hq
     have hz : ((er : Int) != 0) = true := bne_iff_ne.2 (by have := arg_er hq; omega)
     clear hk hq
     go_wp2_with (first | (go_at_call 44; (with_reducible refine (is_walk w0 _ g A c l a a 0 44 hb0 HR.out true HC.out).mono ?_); rintro e w2 ⟨rfl, ⟨nd2, rfl⟩⟩; have y1 := HR.out.cell1; have yf := blk_frozen HR.out.blk 1) | (go_at_call 47; (with_reducible refine (arg_no w0 _ g A c l a1 HL.out HB.out HOK.out HT.out HD.out HM.out HG.out ((HR.out.drewN nd2).seti a1) er HQ.out).mono ?_); rintro e w3 ⟨x, rfl, hf, a2, hr⟩; have F3 := Aside0.mk ((((HF.out.trans (FR.same (W' := wr.drewN nd2) rfl)).set 1 (.int .i64 (a1 : Int)))).trans hf); have HR3 := Aside0.mk hr; clear hf hr) | ((with_reducible refine gate_dst (N := 5) rfl ?_); refine box_event ?hg (N := 5) ?hd (cs := #[.int .u8 0, .int .i64 0, .string (⟨#[]⟩ : ByteArray), .string (⟨#[]⟩ : ByteArray), .int .i64 0, .int .u8 0, .string (⟨#[]⟩ : ByteArray)]) (t := 40) ?hr ?_; (case hd => rfl); (case hg => rfl); (case hr => exact qbf1); intro q hg w4 hbox hb; have HB4 := Aside0.mk hb; have BQ4 := Aside0.mk hbox; have GQ : Aside0 (w3.heap.size ≤ q) := ⟨by rw [hg]; exact Nat.le_refl _⟩; have c0 := bc0 hbox; have cf0 := blk_frozen hbox 0; have c1 := bc1 hbox; have cf1 := blk_frozen hbox 1; have c2 := bc2 hbox; have cf2 := blk_frozen hbox 2; have c3 := bc3 hbox; have cf3 := blk_frozen hbox 3; have c4 := bc4 hbox; have cf4 := blk_frozen hbox 4; have c5 := bc5 hbox; have cf5 := blk_frozen hbox 5; have c6 := bc6 hbox; have cf6 := blk_frozen hbox 6;  clear hb hbox hg) | ((with_reducible refine gate_store (t := 40) (p := 5) (v := .tmp 30) rfl ?_); refine store_event (t := 40) (p := 5) (v := .tmp 30) (w1 := (((((((w4.setCell ⟨q, 0, none⟩ (.int .u8 x.f0)).setCell ⟨q, 1, none⟩ (.int .i64 x.f1)).setCell ⟨q, 2, none⟩ (.string x.f2.f0)).setCell ⟨q, 3, none⟩ (.string x.f2.f1)).setCell ⟨q, 4, none⟩ (.int .i64 x.f2.f2)).setCell ⟨q, 5, none⟩ (.int .u8 x.f2.f3)).setCell ⟨q, 6, none⟩ (.string x.f3))) ?hg ?ho ?hn ?hr ?_; (case ho => rfl); (case hg => rfl); (case hn => rfl); (case hr => exact qbf1); intro w5 hw5; have BQ5 : Aside0 (w5.heap[q]? = some (.cells #[.int .u8 x.f0, .int .i64 x.f1, .string x.f2.f0, .string x.f2.f1, .int .i64 x.f2.f2, .int .u8 x.f2.f3, .string x.f3] 40 (0, 0))) := ⟨by rw [hw5]; exact put7 BQ4.out⟩; have HB5 : Aside0 (Below w3.heap.size w3 w5) := ⟨by rw [hw5]; exact (below_set (below_set (below_set (below_set (below_set (below_set (below_set (HB4.out) GQ.out) GQ.out) GQ.out) GQ.out) GQ.out) GQ.out) GQ.out)⟩; clear hw5 c0 cf0 c1 cf1 c2 cf2 c3 cf3 c4 cf4 c5 cf5 c6 cf6; have c0 := bc0 BQ5.out; have cf0 := blk_frozen BQ5.out 0; have c1 := bc1 BQ5.out; have cf1 := blk_frozen BQ5.out 1; have c2 := bc2 BQ5.out; have cf2 := blk_frozen BQ5.out 2; have c3 := bc3 BQ5.out; have cf3 := blk_frozen BQ5.out 3; have c4 := bc4 BQ5.out; have cf4 := blk_frozen BQ5.out 4; have c5 := bc5 BQ5.out; have cf5 := blk_frozen BQ5.out 5; have c6 := bc6 BQ5.out; have cf6 := blk_frozen BQ5.out 6;  skip))
     go_ret2
     rw [← RES.out]
     exact ⟨_, rfl, Kd.R_nil _ _ _ _ _, F3.out.trans (FR.of_below HB5.out), below_step HR3.out.bel HB5.out⟩
    | inl r =>
     obtain ⟨x, a'⟩ := r
     rw [hq] at hk
     simp only at hk
     have hp := arg_lt hq
     have HQ := Aside0.mk hq
     clear hq
     by_cases h8 : out.length = 8
     ·
      rw [if_pos h8] at hk
      have RES := Aside0.mk hk
      have g8 : ((out.length : Int) == 8) = true := beq_iff_eq.2 (by omega)
      clear hk hp
      go_wp2_with (first | (go_at_call 44; (with_reducible refine (is_walk w0 _ g A c l a a 0 44 hb0 HR.out true HC.out).mono ?_); rintro e w2 ⟨rfl, ⟨nd2, rfl⟩⟩; have y1 := HR.out.cell1; have yf := blk_frozen HR.out.blk 1) | (go_at_call 47; (with_reducible refine (arg_ok w0 _ g A c l a1 HL.out HB.out HOK.out HT.out HD.out HM.out HG.out ((HR.out.drewN nd2).seti a1) x a' HQ.out).mono ?_); rintro e w3 ⟨rfl, hf, hr⟩; have F3 := Aside0.mk ((((HF.out.trans (FR.same (W' := wr.drewN nd2) rfl)).set 1 (.int .i64 (a1 : Int)))).trans hf); have R3 := Aside0.mk (R_fr (HO.out) (((((FR.same rfl : FR wr wr g).trans (FR.same (W' := wr.drewN nd2) rfl)).set 1 (.int .i64 (a1 : Int)))).trans hf)); have HR3 := Aside0.mk hr; clear hf hr) | ((with_reducible refine gate_dst (N := 5) rfl ?_); refine box_event ?hg (N := 5) ?hd (cs := #[.int .u8 0, .int .i64 0, .string (⟨#[]⟩ : ByteArray), .string (⟨#[]⟩ : ByteArray), .int .i64 0, .int .u8 0, .string (⟨#[]⟩ : ByteArray)]) (t := 40) ?hr ?_; (case hd => rfl); (case hg => rfl); (case hr => exact qbf1); intro q hg w4 hbox hb; have HB4 := Aside0.mk hb; have BQ4 := Aside0.mk hbox; have GQ : Aside0 (w3.heap.size ≤ q) := ⟨by rw [hg]; exact Nat.le_refl _⟩; have c0 := bc0 hbox; have cf0 := blk_frozen hbox 0; have c1 := bc1 hbox; have cf1 := blk_frozen hbox 1; have c2 := bc2 hbox; have cf2 := blk_frozen hbox 2; have c3 := bc3 hbox; have cf3 := blk_frozen hbox 3; have c4 := bc4 hbox; have cf4 := blk_frozen hbox 4; have c5 := bc5 hbox; have cf5 := blk_frozen hbox 5; have c6 := bc6 hbox; have cf6 := blk_frozen hbox 6;  clear hb hbox hg) | ((with_reducible refine gate_store (t := 40) (p := 5) (v := .tmp 30) rfl ?_); refine store_event (t := 40) (p := 5) (v := .tmp 30) (w1 := (((((((w4.setCell ⟨q, 0, none⟩ (.int .u8 x.f0)).setCell ⟨q, 1, none⟩ (.int .i64 x.f1)).setCell ⟨q, 2, none⟩ (.string x.f2.f0)).setCell ⟨q, 3, none⟩ (.string x.f2.f1)).setCell ⟨q, 4, none⟩ (.int .i64 x.f2.f2)).setCell ⟨q, 5, none⟩ (.int .u8 x.f2.f3)).setCell ⟨q, 6, none⟩ (.string x.f3))) ?hg ?ho ?hn ?hr ?_; (case ho => rfl); (case hg => rfl); (case hn => rfl); (case hr => exact qbf1); intro w5 hw5; have BQ5 : Aside0 (w5.heap[q]? = some (.cells #[.int .u8 x.f0, .int .i64 x.f1, .string x.f2.f0, .string x.f2.f1, .int .i64 x.f2.f2, .int .u8 x.f2.f3, .string x.f3] 40 (0, 0))) := ⟨by rw [hw5]; exact put7 BQ4.out⟩; have HB5 : Aside0 (Below w3.heap.size w3 w5) := ⟨by rw [hw5]; exact (below_set (below_set (below_set (below_set (below_set (below_set (below_set (HB4.out) GQ.out) GQ.out) GQ.out) GQ.out) GQ.out) GQ.out) GQ.out)⟩; clear hw5 c0 cf0 c1 cf1 c2 cf2 c3 cf3 c4 cf4 c5 cf5 c6 cf6; have c0 := bc0 BQ5.out; have cf0 := blk_frozen BQ5.out 0; have c1 := bc1 BQ5.out; have cf1 := blk_frozen BQ5.out 1; have c2 := bc2 BQ5.out; have cf2 := blk_frozen BQ5.out 2; have c3 := bc3 BQ5.out; have cf3 := blk_frozen BQ5.out 3; have c4 := bc4 BQ5.out; have cf4 := blk_frozen BQ5.out 4; have c5 := bc5 BQ5.out; have cf5 := blk_frozen BQ5.out 5; have c6 := bc6 BQ5.out; have cf6 := blk_frozen BQ5.out 6;  skip))
      go_ret2
      rw [← RES.out]
      exact ⟨_, rfl, Kd.R_nil _ _ _ _ _, F3.out.trans (FR.of_below HB5.out), below_step HR3.out.bel HB5.out⟩
     rw [if_neg h8] at hk
     have g8 : ((out.length : Int) == 8) = false := beq_eq_false_iff_ne.2 (by omega)
     have H8 := Aside0.mk h8
     clear h8
     obtain ⟨d, hd⟩ : ∃ d, l.length = d + 1 := ⟨l.length - 1, by have := HLT.out; omega⟩
     have hfu : argsB l (l.length + 1) a' (out ++ [x]) = res := by
      rw [args_fuel l l.length d a' _ (by omega) (by omega), ← hd]
      exact hk
     have KK := Aside0.mk (And.intro hp.2 hfu)
     obtain ⟨b7, hb7⟩ : ∃ b, decide (l.length ≤ a') = b := ⟨_, rfl⟩
     have HE7 := Aside0.mk hb7
     clear hk hd hfu hb7 hp
     go_wp2_with (first | (go_at_call 44; (with_reducible refine (is_walk w0 _ g A c l a a 0 44 hb0 HR.out true HC.out).mono ?_); rintro e w2 ⟨rfl, ⟨nd2, rfl⟩⟩; have y1 := HR.out.cell1; have yf := blk_frozen HR.out.blk 1) | (go_at_call 47; (with_reducible refine (arg_ok w0 _ g A c l a1 HL.out HB.out HOK.out HT.out HD.out HM.out HG.out ((HR.out.drewN nd2).seti a1) x a' HQ.out).mono ?_); rintro e w3 ⟨rfl, hf, hr⟩; have F3 := Aside0.mk ((((HF.out.trans (FR.same (W' := wr.drewN nd2) rfl)).set 1 (.int .i64 (a1 : Int)))).trans hf); have R3 := Aside0.mk (R_fr (HO.out) (((((FR.same rfl : FR wr wr g).trans (FR.same (W' := wr.drewN nd2) rfl)).set 1 (.int .i64 (a1 : Int)))).trans hf)); have HR3 := Aside0.mk hr; clear hf hr) | ((with_reducible refine gate_dst (N := 5) rfl ?_); refine box_event ?hg (N := 5) ?hd (cs := #[.int .u8 0, .int .i64 0, .string (⟨#[]⟩ : ByteArray), .string (⟨#[]⟩ : ByteArray), .int .i64 0, .int .u8 0, .string (⟨#[]⟩ : ByteArray)]) (t := 40) ?hr ?_; (case hd => rfl); (case hg => rfl); (case hr => exact qbf1); intro q hg w4 hbox hb; have HB4 := Aside0.mk hb; have BQ4 := Aside0.mk hbox; have GQ : Aside0 (w3.heap.size ≤ q) := ⟨by rw [hg]; exact Nat.le_refl _⟩; have c0 := bc0 hbox; have cf0 := blk_frozen hbox 0; have c1 := bc1 hbox; have cf1 := blk_frozen hbox 1; have c2 := bc2 hbox; have cf2 := blk_frozen hbox 2; have c3 := bc3 hbox; have cf3 := blk_frozen hbox 3; have c4 := bc4 hbox; have cf4 := blk_frozen hbox 4; have c5 := bc5 hbox; have cf5 := blk_frozen hbox 5; have c6 := bc6 hbox; have cf6 := blk_frozen hbox 6;  clear hb hbox hg) | ((with_reducible refine gate_store (t := 40) (p := 5) (v := .tmp 30) rfl ?_); refine store_event (t := 40) (p := 5) (v := .tmp 30) (w1 := (((((((w4.setCell ⟨q, 0, none⟩ (.int .u8 x.f0)).setCell ⟨q, 1, none⟩ (.int .i64 x.f1)).setCell ⟨q, 2, none⟩ (.string x.f2.f0)).setCell ⟨q, 3, none⟩ (.string x.f2.f1)).setCell ⟨q, 4, none⟩ (.int .i64 x.f2.f2)).setCell ⟨q, 5, none⟩ (.int .u8 x.f2.f3)).setCell ⟨q, 6, none⟩ (.string x.f3))) ?hg ?ho ?hn ?hr ?_; (case ho => rfl); (case hg => rfl); (case hn => rfl); (case hr => exact qbf1); intro w5 hw5; have BQ5 : Aside0 (w5.heap[q]? = some (.cells #[.int .u8 x.f0, .int .i64 x.f1, .string x.f2.f0, .string x.f2.f1, .int .i64 x.f2.f2, .int .u8 x.f2.f3, .string x.f3] 40 (0, 0))) := ⟨by rw [hw5]; exact put7 BQ4.out⟩; have HB5 : Aside0 (Below w3.heap.size w3 w5) := ⟨by rw [hw5]; exact (below_set (below_set (below_set (below_set (below_set (below_set (below_set (HB4.out) GQ.out) GQ.out) GQ.out) GQ.out) GQ.out) GQ.out) GQ.out)⟩; clear hw5 c0 cf0 c1 cf1 c2 cf2 c3 cf3 c4 cf4 c5 cf5 c6 cf6; have c0 := bc0 BQ5.out; have cf0 := blk_frozen BQ5.out 0; have c1 := bc1 BQ5.out; have cf1 := blk_frozen BQ5.out 1; have c2 := bc2 BQ5.out; have cf2 := blk_frozen BQ5.out 2; have c3 := bc3 BQ5.out; have cf3 := blk_frozen BQ5.out 3; have c4 := bc4 BQ5.out; have cf4 := blk_frozen BQ5.out 4; have c5 := bc5 BQ5.out; have cf5 := blk_frozen BQ5.out 5; have c6 := bc6 BQ5.out; have cf6 := blk_frozen BQ5.out 6;  skip) | ((with_reducible refine gate_builtin (b := .append) (xs := #[.tmp 38, .tmp 40]) rfl ?_); at_builtin; refine Kd.R_append k40 (w0 := w5) (W := w5) W.heap.size rfl (.tmp 38) (.tmp 40) 23 40 (.agg (aV z40)) 80 rfl Tryz.underlying23 infoA rfl (by decide) (by omega) (.slice A2 _ q2) _ x [.int .u8 x.f0, .int .i64 x.f1, .string x.f2.f0, .string x.f2.f1, .int .i64 x.f2.f2, .int .u8 x.f2.f3, .string x.f3] (fun k => k ≠ g) (fun _ => False) rfl rfl ?aP (fun _ hk => hk.elim) ?aF (Kd.R_below R3.out HB5.out) ?aB ?aS ?aL ?_; (case aP => exact k40_mkM _ _ _ x); (case aF => exact fun k hk => by have := HGL.out; have := F3.out.size; have := HB5.out.size; omega); (case aB => exact Below.refl _ _); (case aS => exact Nat.le_trans F3.out.size HB5.out.size); (case aL => have := HN.out; first | omega | (simp; omega) | (simp; done)); intro v7 w7 ho hb7 hg7 _; obtain ⟨A7, q7, rfl⟩ := Kd.R_slice ho; have R7 := Aside0.mk ho; have F7 : Aside0 (FR W w7 g) := ⟨⟨Nat.le_trans F3.out.size (Nat.le_trans HB5.out.size hb7.size), fun k hk hn => (hb7.block k hk).trans ((HB5.out.block k (Nat.lt_of_lt_of_le hk F3.out.size)).trans (F3.out.keep k hk hn))⟩⟩; have HR7 : Aside0 (RD w0 w7 g A c l a') := ⟨⟨(hb7.block g HGL.out).trans (blk_below HR3.out.blk HB5.out), HR3.out.ge, below_weaken (below_step HR3.out.bel HB5.out) HW0.out hb7, HR3.out.row, HR3.out.cap⟩⟩; clear ho hb7 hg7) | (go_at_call 27; (with_reducible refine (end_walk w0 _ g A c l a' HR7.out b7 HE7.out).mono ?_); rintro e w8 ⟨rfl, ⟨nd8, rfl⟩⟩))
     go_roundw
     case rel => exact ⟨a', out ++ [x], !b7, rfl, rfl, ⟨by rw [HE7.out]⟩, KK, ⟨by have h7 := R7.out; rw [show (out ++ [x]).length = out.length + 1 by simp] at h7; exact Kd.R_drewN h7 nd8⟩, ⟨by have := HN.out; have := H8.out; first | (simp; done) | (simp; omega)⟩, ⟨HR7.out.drewN nd8⟩, ⟨F7.out.trans (FR.same rfl)⟩⟩
     case measure => have := HN.out; have := H8.out; first | (simp; done) | (simp; omega)
def plainB (t : S61) : Bool := t.f0 == 1 && (!(t.f1.data.toList.getD 0 0 == 37) && !Lex.digitC (t.f1.data.toList.getD 0 0))
def countB (t : S61) : Bool := t.f0 == 2 && (decide (0 ≤ t.f2) && decide (t.f2 < 1000000000))
def labelsB (l : List S61) : Nat → Nat → List ByteArray → List ByteArray × Nat
 | 0, a, out => (out, a)
 | d + 1, a, out =>
  if markB l (a + 1) 58 = true then (match l[a]? with
   | some t => if plainB t = true then labelsB l d (a + 2) (out ++ [t.f1]) else if countB t = true then labelsB l d (a + 2) (out ++ [⟨(Lex.decL t.f2.toNat).toArray⟩]) else (out, a)
   | none => (out, a)) else (out, a)
theorem labels_fuel (l : List S61) : ∀ (d d' a : Nat) (out : List ByteArray), l.length - a ≤ d → l.length - a ≤ d' → labelsB l (d + 1) a out = labelsB l (d' + 1) a out
 | d, d', a, out, h, h' => by
  unfold labelsB
  by_cases c : markB l (a + 1) 58 = true
  ·
   have hm := mark_lt c
   rw [if_pos c, if_pos c]
   cases l[a]? with
   | none => rfl
   | some t =>
    simp only
    obtain ⟨e, rfl⟩ : ∃ e, d = e + 1 := ⟨d - 1, by omega⟩
    obtain ⟨e', rfl⟩ : ∃ e, d' = e + 1 := ⟨d' - 1, by omega⟩
    split
    ·
     exact labels_fuel l e e' (a + 2) _ (by omega) (by omega)
    split
    ·
     exact labels_fuel l e e' (a + 2) _ (by omega) (by omega)
    ·
     rfl
  ·
   rw [if_neg c, if_neg c]
theorem counted_f (t : S61) : line_counted.f t.f0 t.f1 t.f2 = some (countB t) := by
  unfold line_counted.f countB
  by_cases h : t.f0 = 2
  · by_cases h0 : t.f2 ≥ 0
    · simp [h, h0]
    · simp [h, h0]
  · simp [h]
theorem plain_f (t : S61) (h : t.f0 = 1 → 0 < t.f1.size) : line_plain.f t.f0 t.f1 t.f2 = some (plainB t) := by
 unfold line_plain.f plainB
 by_cases c : t.f0 = 1
 ·
  have hs := h c
  have hl : 0 < t.f1.data.toList.length := by rw [ZT.size_data]; exact hs
  have hg : t.f1.data.toList.getD 0 0 = t.f1[0] := by
   simp [List.getD, List.getElem?_eq_getElem hl]
   rfl
  rw [if_pos c, if_pos (by omega), hg, show bt t.f1 0 = (t.f1[0].toNat : Int) from ZT.bt_lt t.f1 0 hs]
  have hp := Lex.bytes (p := fun c => (if ((c.toNat : Int)) = 37 then some false else (if ((c.toNat : Int)) < 48 then some true else some (decide ((c.toNat : Int) > 57)))) == some (!(c == 37) && !Lex.digitC c)) (by decide +kernel) (t.f1[0])
  rw [beq_iff_eq.1 hp, c]
  rfl
 ·
  rw [if_neg c]
  simp [c]
theorem count_itoa {t : S61} (h : countB t = true) : strconv_Itoa.f t.f2 = some ⟨(Lex.decL t.f2.toNat).toArray⟩ := by
 unfold countB at h
 simp only [Bool.and_eq_true, decide_eq_true_eq] at h
 unfold strconv_Itoa.f
 rw [if_pos (by omega), show Lib.itoa t.f2 = Lex.decL t.f2.toNat by
  obtain ⟨n, hn⟩ : ∃ n : Nat, t.f2 = n := ⟨t.f2.toNat, by omega⟩
  rw [hn, LR.itoa_dec]; rfl]
theorem R_fg {α : Type} {d : Kd α} {e base g : Nat} {W W' : World} {v : Value} {xs : List α} (h : Kd.R d e W base (fun k => k ≠ g) v xs) (hf : FR W W' g) : Kd.R d e W' base (fun k => k ≠ g) v xs := Kd.R_step h (fun k ho hlt => hf.keep k hlt ho)
theorem RD.other {w0 W : World} {g c a q : Nat} {A : Option Addr} {l : List S61} (h : RD w0 W g A c l a) (hn : g ≠ q) (hq : w0.heap.size ≤ q) (j : Nat) (v : Value) : RD w0 (W.setCell ⟨q, j, none⟩ v) g A c l a := ⟨blk_far h.blk hn _, h.ge, below_set h.bel hq, h.row, h.cap⟩
theorem FR.setq {W W1 : World} {g q : Nat} (h : FR W W1 g) (hq : W.heap.size ≤ q) (j : Nat) (v : Value) : FR W (W1.setCell ⟨q, j, none⟩ v) g :=
 ⟨Nat.le_trans h.size (Nat.le_of_eq (by simp)), fun k hk hn => (Below.heap_setCell W1 ⟨q, j, none⟩ v k (by show k ≠ q; omega)).trans (h.keep k hk hn)⟩
theorem put3q {W : World} {b t : Nat} {x y z u v p : Value} (h : W.heap[b]? = some (.cells #[u, v, p] t (0, 0))) :
  (((W.setCell ⟨b, 0, none⟩ x).setCell ⟨b, 1, none⟩ y).setCell ⟨b, 2, none⟩ z).heap[b]? = some (.cells #[x, y, z] t (0, 0)) :=
 blk_put (cs' := #[x, y, z]) (blk_put (cs' := #[x, y, p]) (blk_put (cs' := #[x, v, p]) h 0 _ rfl) 1 _ rfl) 2 _ rfl
set_option maxHeartbeats 8000000 in
set_option maxRecDepth 100000 in
theorem labels_walk (w0 W : World) (g : Nat) (A : Option Addr) (c : Nat) (l : List S61) (hl : l.length ≤ 1000000) (hw : ∀ t ∈ l, t.f0 = 1 → 0 < t.f1.size) (hT : Lib.TabIs Tryz.prog w0 "internal/strconv.uint64pow10" .u64 Lib.pow10Tab) (h : RD w0 W g A c l 0) (labs : List ByteArray) (ae : Nat) (hres : labelsB l (l.length + 1) 0 [] = (labs, ae)) :
  Calls Tryz.prog 26 #[.pointer (some ⟨g, 0, none⟩)] W fun e W' => ∃ v, e = .returned v ∧ Kd.R Kd.string 9 W' W.heap.size (fun k => k ≠ g) v labs ∧ FR W W' g ∧ RD w0 W' g A c l ae := by
 have HR := Aside0.mk h
 have HT := Aside0.mk hT
 have HL := Aside0.mk hl
 have HW := Aside0.mk hw
 have HGL0 := Aside0.mk (blk_lt h.blk)
 have HW0 := Aside0.mk h.bel.size
 have RES := Aside0.mk hres
 clear h hl hw hT hres
 go_enter Tryz.func26, Tryz.ntmps26
 go_wp2
 go_loopw [3] (fun v3 wx => ∃ (a : Nat) (out : List ByteArray), v3 = v3 ∧ Aside0 (labelsB l (l.length + 1) a out = (labs, ae)) ∧ Aside0 (Kd.R Kd.string 9 wx W.heap.size (fun k => k ≠ g) v3 out) ∧ Aside0 (out.length ≤ a ∧ a ≤ l.length) ∧ Aside0 (RD w0 wx g A c l a) ∧ Aside0 (FR W wx g)) (fun v3 _ => match v3 with | .slice _ n _ => l.length + 1 - n | _ => 0)
 case atStart => exact ⟨0, [], rfl, ⟨RES.out⟩, ⟨Kd.R_nil _ _ _ _ _⟩, ⟨by simp⟩, ⟨HR.out⟩, ⟨FR.same rfl⟩⟩
 case round =>
  clear HR RES
  obtain ⟨a, out, _, HK, HO, HN, HR, HF⟩ := hrel
  have HGL := HGL0
  have hb1 : wrap64 ((a : Int) + 1) = ((a + 1 : Nat) : Int) := by have := HN.out; have := HL.out; unfold wrap64; omega
  have hk := HK.out
  rw [labelsB] at hk
  obtain ⟨A2, q2, rfl⟩ := Kd.R_slice HO.out
  cases hm : markB l (a + 1) 58 with
  | false =>
   rw [hm, if_neg (by simp)] at hk
   have RES := Aside0.mk hk
   have HC := Aside0.mk hm
   clear hk hm
   go_wp2_with (first | (go_at_call 44; (with_reducible refine (is_walk w0 _ g A c l a (a + 1) 1 58 hb1 HR.out false HC.out).mono ?_); rintro e w1 ⟨rfl, ⟨nd, rfl⟩⟩))
   go_ret
   obtain ⟨rfl, rfl⟩ := Prod.mk.inj RES.out
   exact ⟨_, rfl, Kd.R_drewN HO.out nd, HF.out.trans (FR.same (W' := wr.drewN nd) rfl), HR.out.drewN nd⟩
  | true =>
   have hlt := mark_lt hm
   have hj : a < l.length := by omega
   obtain ⟨t, ht⟩ : ∃ t, l[a]? = some t := ⟨l[a], List.getElem?_eq_getElem hj⟩
   rw [hm, if_pos rfl, ht] at hk
   simp only at hk
   have hmem := List.mem_of_getElem? ht
   have HTT := Aside0.mk ht
   have HC := Aside0.mk hm
   have p0 := eq_true (show (0 : Int) ≤ (a : Int) by omega)
   have q0 := eq_true (show (a : Int) < (l.length : Int) by omega)
   obtain ⟨a2, e2⟩ : ∃ x, x = a + 2 := ⟨_, rfl⟩
   have hb2 : wrap64 ((a : Int) + 2) = (a2 : Int) := by have := HN.out; have := HL.out; unfold wrap64; omega
   have E2 := Aside0.mk e2
   have HLT := Aside0.mk hlt
   obtain ⟨d, hd⟩ : ∃ d, l.length = d + 1 := ⟨l.length - 1, by omega⟩
   have hfu : ∀ o, labelsB l l.length a2 o = labelsB l (l.length + 1) a2 o := fun o => by rw [show labelsB l l.length a2 o = labelsB l (d + 1) a2 o by rw [hd]]; exact labels_fuel l d l.length a2 o (by omega) (by omega)
   rw [← e2] at hk
   have HPF := Aside0.mk (plain_f t (HW.out t hmem))
   cases hp : plainB t with
   | true =>
    rw [hp, if_pos rfl, hfu] at hk
    have HK2 : Aside0 (labelsB l (l.length + 1) a2 (out ++ [t.f1]) = (labs, ae)) := ⟨hk⟩
    have HP : Aside0 (line_plain.f t.f0 t.f1 t.f2 = some true) := ⟨by rw [HPF.out, hp]⟩
    clear hk hp hfu hd hmem ht hm hj e2 hlt HPF
    go_wp2_with (first | (go_at_call 44; (with_reducible refine (is_walk w0 _ g A c l a (a + 1) 1 58 hb1 HR.out true HC.out).mono ?_); rintro e w1 ⟨rfl, ⟨nd, rfl⟩⟩))
    have HR1 := Aside0.mk (HR.out.drewN nd).drew
    have F1 : Aside0 (FR wr (wr.drewN nd).drew g) := ⟨FR.same rfl⟩
    have c0 := (HR.out.drewN nd).cell0
    have c1 := (HR.out.drewN nd).cell1
    obtain ⟨ad, rfl, x0, x1, x2⟩ := (HR.out.drewN nd).tok2 a t HTT.out
    refine start_ (n := 12) (S := fun w' => w'.cell? ⟨g, 0, none⟩ = some (.slice (some ad) l.length c) ∧ w'.cell? ⟨g, 1, none⟩ = some (.int .i64 (a : Int)) ∧ w'.cell? (ad.add (a * 3)) = some (.int .u8 t.f0) ∧ w'.cell? ⟨(ad.add (a * 3)).block, (ad.add (a * 3)).off + 1, none⟩ = some (.string t.f1) ∧ w'.cell? ⟨(ad.add (a * 3)).block, (ad.add (a * 3)).off + 2, none⟩ = some (.int .i64 t.f2)) (ds := [11]) #[false, false, false, false, false, false, false, false, false, false, false, false] (by kernel_rfl) rfl rfl ⟨c0, c1, x0, x1, x2⟩ (fun hHeld => ?_)
    refine pure_ (i := 0) (N := some 7) (v := ?_) (a' := ?_) #[true, false, false, false, false, false, false, false, false, false, false, false] rfl rfl (by kernel_rfl) (fun _ _ _ h => h) (Or.inl ⟨by rfl, ?_⟩) ?_ ?_
    rotate_left
    ·
     intro w'
     go_simp
     with_reducible rfl
    rotate_left
    ·
     simp only [Act.put, List.setIfInBounds_toArray, List.set_cons_zero, List.set_cons_succ, i64_w, i32_w]
     rfl
    refine pure_ (i := 1) (N := some 8) (v := ?_) (a' := ?_) #[true, true, false, false, false, false, false, false, false, false, false, false] rfl rfl (by kernel_rfl) (fun _ _ _ h => h) (Or.inl ⟨by rfl, ?_⟩) ?_ ?_
    rotate_left
    ·
     intro w'
     go_simp
     with_reducible rfl
    rotate_left
    ·
     simp only [Act.put, List.setIfInBounds_toArray, List.set_cons_zero, List.set_cons_succ, i64_w, i32_w]
     rfl
    refine pure_ (i := 2) (N := some 9) (v := ?_) (a' := ?_) #[true, true, true, false, false, false, false, false, false, false, false, false] rfl rfl (by kernel_rfl) (fun _ _ _ h => h) (Or.inl ⟨by rfl, ?_⟩) ?_ ?_
    rotate_left
    ·
     intro w'
     go_simp
     with_reducible rfl
    rotate_left
    ·
     simp only [Act.put, List.setIfInBounds_toArray, List.set_cons_zero, List.set_cons_succ, i64_w, i32_w]
     rfl
    refine pure_ (i := 4) (N := some 11) (v := ?_) (a' := ?_) #[true, true, true, false, true, false, false, false, false, false, false, false] rfl rfl (by kernel_rfl) (fun _ _ _ h => h) (Or.inl ⟨by rfl, ?_⟩) ?_ ?_
    rotate_left
    ·
     intro w'
     go_simp
     with_reducible rfl
    rotate_left
    ·
     simp only [Act.put, List.setIfInBounds_toArray, List.set_cons_zero, List.set_cons_succ, i64_w, i32_w]
     rfl
    refine pure_ (i := 5) (N := some 12) (v := ?_) (a' := ?_) #[true, true, true, false, true, true, false, false, false, false, false, false] rfl rfl (by kernel_rfl) (fun _ _ _ h => h) (Or.inl ⟨by rfl, ?_⟩) ?_ ?_
    rotate_left
    ·
     intro w'
     go_simp
     with_reducible rfl
    rotate_left
    ·
     simp only [Act.put, List.setIfInBounds_toArray, List.set_cons_zero, List.set_cons_succ, i64_w, i32_w]
     rfl
    refine pure_ (i := 6) (N := some 13) (v := ?_) (a' := ?_) #[true, true, true, false, true, true, true, false, false, false, false, false] rfl rfl (by kernel_rfl) (fun _ _ _ h => h) (Or.inl ⟨by rfl, ?_⟩) ?_ ?_
    rotate_left
    ·
     intro w'
     go_simp
     with_reducible rfl
    rotate_left
    ·
     simp only [Act.put, List.setIfInBounds_toArray, List.set_cons_zero, List.set_cons_succ, i64_w, i32_w]
     rfl
    refine take_ (i := 3) (N := some 10) (v := ?_) (a' := ?_) #[true, true, true, true, true, true, true, false, false, false, false, false] rfl rfl (by kernel_rfl) (fun _ _ _ h => h) (Or.inl ⟨by rfl, ?_⟩) hHeld ?_ ?_
    rotate_left
    ·
     rintro w' ⟨s0, s1, s2, s3, s4⟩
     go_simp
     with_reducible rfl
    rotate_left
    ·
     simp only [Act.put, List.setIfInBounds_toArray, List.set_cons_zero, List.set_cons_succ, i64_w, i32_w]
     rfl
    refine take_ (i := 7) (N := some 14) (v := ?_) (a' := ?_) #[true, true, true, true, true, true, true, true, false, false, false, false] rfl rfl (by kernel_rfl) (fun _ _ _ h => h) (Or.inl ⟨by rfl, ?_⟩) hHeld ?_ ?_
    rotate_left
    ·
     rintro w' ⟨s0, s1, s2, s3, s4⟩
     go_simp
     with_reducible rfl
    rotate_left
    ·
     simp only [Act.put, List.setIfInBounds_toArray, List.set_cons_zero, List.set_cons_succ, i64_w, i32_w]
     rfl
    refine pure_ (i := 8) (N := some 15) (v := ?_) (a' := ?_) #[true, true, true, true, true, true, true, true, true, false, false, false] rfl rfl (by kernel_rfl) (fun _ _ _ h => h) (Or.inl ⟨by rfl, ?_⟩) ?_ ?_
    rotate_left
    ·
     intro w'
     go_simp
     with_reducible rfl
    rotate_left
    ·
     simp only [Act.put, List.setIfInBounds_toArray, List.set_cons_zero, List.set_cons_succ, i64_w, i32_w]
     rfl
    refine take_ (i := 9) (N := some 16) (v := ?_) (a' := ?_) #[true, true, true, true, true, true, true, true, true, true, false, false] rfl rfl (by kernel_rfl) (fun _ _ _ h => h) (Or.inl ⟨by rfl, ?_⟩) hHeld ?_ ?_
    rotate_left
    ·
     rintro w' ⟨s0, s1, s2, s3, s4⟩
     go_simp
     with_reducible rfl
    rotate_left
    ·
     simp only [Act.put, List.setIfInBounds_toArray, List.set_cons_zero, List.set_cons_succ, i64_w, i32_w]
     rfl
    refine one_ (i := 10) (N := some 4) #[true, true, true, true, true, true, true, true, true, true, true, false] rfl rfl (by kernel_rfl) (by decide) (fun K hK => ?_)
    refine box_step ?hg (N := 4) ?hd (cs := #[.int .u8 0, .string (⟨#[]⟩ : ByteArray), .int .i64 0]) (t := 61) ?hr ?_; (case hd => rfl); (case hg => rfl); (case hr => exact qbf1)
    intro q hq w2 hbox hb
    have HR2 := Aside0.mk (HR1.out.below hb)
    have F2 := Aside0.mk (F1.out.trans (FR.of_below hb))
    have BQ := Aside0.mk hbox
    have GQ := Aside0.mk (show W.heap.size ≤ q by rw [hq]; exact Nat.le_trans HF.out.size F1.out.size)
    have GR := Aside0.mk (show wr.heap.size ≤ q by rw [hq]; exact F1.out.size)
    have NG := Aside0.mk (show g ≠ q by rw [hq]; exact Nat.ne_of_lt (blk_lt HR1.out.blk))
    clear hq hbox
    refine hK.out _ _ ⟨((hb.cell (World.block_lt_of_cell? _ _ hHeld.1)).trans hHeld.1), ((hb.cell (World.block_lt_of_cell? _ _ hHeld.2.1)).trans hHeld.2.1), ((hb.cell (World.block_lt_of_cell? _ _ hHeld.2.2.1)).trans hHeld.2.2.1), ((hb.cell (World.block_lt_of_cell? _ _ hHeld.2.2.2.1)).trans hHeld.2.2.2.1), ((hb.cell (World.block_lt_of_cell? _ _ hHeld.2.2.2.2)).trans hHeld.2.2.2.2)⟩ (fun hHeld => ?_)
    clear hK K
    refine norm_ (a' := ?_) ?_ ?_
    rotate_left
    ·
     show Act.put _ (some 4) _ = _
     simp only [Act.put, List.setIfInBounds_toArray, List.set_cons_zero, List.set_cons_succ, i64_w, i32_w]
     rfl
    refine last_ (i := 11) (N := none) #[true, true, true, true, true, true, true, true, true, true, true, true] rfl rfl (by kernel_rfl) (by decide) (fun K hK => ?_)
    have z0 := bc0 BQ.out
    have z1 := bc1 BQ.out
    have z2 := bc2 BQ.out
    have y0 := blk_frozen BQ.out 0
    have y1 := blk_frozen BQ.out 1
    have y2 := blk_frozen BQ.out 2
    refine skip_ (w1 := ?_) (by rfl) rfl ?_ ?_
    rotate_left
    ·
     go_simp
     rfl
    refine hK.out _ _ ?_
    clear hK K
    refine done_ (by kernel_rfl) ?_
    obtain ⟨w3, hw3, HR3, F3, BQ3⟩ : ∃ V, (((w2.setCell ⟨q, 0, none⟩ (.int .u8 t.f0)).setCell ⟨q, 1, none⟩ (.string t.f1)).setCell ⟨q, 2, none⟩ (.int .i64 t.f2)) = V ∧ Aside0 (RD w0 V g (some ad) c l a) ∧ Aside0 (FR wr V g) ∧ Aside0 (V.heap[q]? = some (.cells #[.int .u8 t.f0, .string t.f1, .int .i64 t.f2] 61 (0, 0))) := ⟨_, rfl, ⟨((HR2.out.other NG.out (Nat.le_trans HW0.out GQ.out) _ _).other NG.out (Nat.le_trans HW0.out GQ.out) _ _).other NG.out (Nat.le_trans HW0.out GQ.out) _ _⟩, ⟨((F2.out.setq GR.out _ _).setq GR.out _ _).setq GR.out _ _⟩, ⟨put3q BQ.out⟩⟩
    rw [hw3]
    clear hw3 z0 z1 z2 y0 y1 y2 c0 c1 x0 x1 x2 HR1 HR2 F1 F2 BQ
    have g0 := bc0 BQ3.out
    have gf0 := blk_frozen BQ3.out 0
    have g1 := bc1 BQ3.out
    have gf1 := blk_frozen BQ3.out 1
    have g2 := bc2 BQ3.out
    have gf2 := blk_frozen BQ3.out 2
    go_wp2_with (first | (go_at_call 28; (with_reducible refine (line_plain.calls t.f0 t.f1 t.f2 true _ HP.out).mono ?_); rintro e w4 ⟨rfl, hb⟩; have HR4 := Aside0.mk (HR3.out.below hb); have F4 := Aside0.mk (F3.out.trans (FR.of_below hb)); have BQ4 := Aside0.mk (blk_below BQ3.out hb); clear hb; have c0 := bc0 BQ4.out; have cf0 := blk_frozen BQ4.out 0; have c1 := bc1 BQ4.out; have cf1 := blk_frozen BQ4.out 1; have c2 := bc2 BQ4.out; have cf2 := blk_frozen BQ4.out 2;  skip) | ((with_reducible refine gate_builtin (b := .append) (xs := #[.tmp 21, .tmp 24]) rfl ?_); at_builtin; refine Kd.R_append Kd.string (w0 := w4) (W := w4) W.heap.size rfl (.tmp 21) (.tmp 24) 22 9 (.string ⟨#[]⟩) 16 rfl Tryz.underlying22 info9 rfl (by decide) (by omega) (.slice A2 _ q2) out t.f1 [.string t.f1] (fun k => k ≠ g) (fun _ => False) rfl rfl ?aP (fun _ hk => hk.elim) ?aF (R_fg HO.out (F4.out)) ?aB ?aS ?aL ?_; (case aP => exact rfl); (case aF => exact fun k hk => by have := HGL.out; have := HF.out.size; have := F4.out.size; omega); (case aB => exact Below.refl _ _); (case aS => exact Nat.le_trans HF.out.size F4.out.size); (case aL => have := HN.out; have := HL.out; omega); intro v7 w7 ho hb7 hg7 _; obtain ⟨A7, q7, rfl⟩ := Kd.R_slice ho; have R7 := Aside0.mk ho; have F7 : Aside0 (FR W w7 g) := ⟨⟨Nat.le_trans HF.out.size (Nat.le_trans F4.out.size hb7.size), fun k hk hn => (hb7.block k hk).trans ((HF.out.trans F4.out).keep k hk hn)⟩⟩; have HR7 : Aside0 (RD w0 w7 g (some ad) c l a) := ⟨⟨(hb7.block g HGL.out).trans HR4.out.blk, HR4.out.ge, below_weaken HR4.out.bel HW0.out hb7, HR4.out.row, HR4.out.cap⟩⟩; have u1 := HR7.out.cell1; have uf := blk_frozen HR7.out.blk 1; clear ho hb7 hg7))
    go_roundw
    case rel => exact ⟨a2, out ++ [t.f1], (by first | rfl | trivial), HK2, ⟨by have h7 := R7.out; rw [show (out ++ [t.f1]).length = out.length + 1 by simp] at h7; exact R_fg h7 ((FR.same rfl : FR w7 w7 g).set 1 (.int .i64 (a2 : Int)))⟩, ⟨by have := HN.out; have := E2.out; have := HLT.out; rw [show (out ++ [t.f1]).length = out.length + 1 by simp]; exact ⟨by omega, by omega⟩⟩, ⟨HR7.out.seti a2⟩, ⟨F7.out.set _ _⟩⟩
    case measure => have := HN.out; have := HL.out; have := HLT.out; first | (simp; done) | (simp; omega)
   | false =>
    rw [hp, if_neg (by simp)] at hk
    have HP : Aside0 (line_plain.f t.f0 t.f1 t.f2 = some false) := ⟨by rw [HPF.out, hp]⟩
    have HCF := Aside0.mk (counted_f t)
    cases hc : countB t with
    | true =>
     rw [hc, if_pos rfl, hfu] at hk
     have hI := count_itoa hc
     obtain ⟨s, hs⟩ : ∃ s : ByteArray, (⟨(Lex.decL t.f2.toNat).toArray⟩ : ByteArray) = s := ⟨_, rfl⟩
     rw [hs] at hk hI
     have HI := Aside0.mk hI
     have HK2 : Aside0 (labelsB l (l.length + 1) a2 (out ++ [s]) = (labs, ae)) := ⟨hk⟩
     have HCT : Aside0 (line_counted.f t.f0 t.f1 t.f2 = some true) := ⟨by rw [HCF.out, hc]⟩
     clear hk hp hc hs hI hfu hd hmem ht hm hj e2 hlt HPF HCF
     go_wp2_with (first | (go_at_call 44; (with_reducible refine (is_walk w0 _ g A c l a (a + 1) 1 58 hb1 HR.out true HC.out).mono ?_); rintro e w1 ⟨rfl, ⟨nd, rfl⟩⟩))
     have HR1 := Aside0.mk (HR.out.drewN nd).drew
     have F1 : Aside0 (FR wr (wr.drewN nd).drew g) := ⟨FR.same rfl⟩
     have c0 := (HR.out.drewN nd).cell0
     have c1 := (HR.out.drewN nd).cell1
     obtain ⟨ad, rfl, x0, x1, x2⟩ := (HR.out.drewN nd).tok2 a t HTT.out
     refine start_ (n := 12) (S := fun w' => w'.cell? ⟨g, 0, none⟩ = some (.slice (some ad) l.length c) ∧ w'.cell? ⟨g, 1, none⟩ = some (.int .i64 (a : Int)) ∧ w'.cell? (ad.add (a * 3)) = some (.int .u8 t.f0) ∧ w'.cell? ⟨(ad.add (a * 3)).block, (ad.add (a * 3)).off + 1, none⟩ = some (.string t.f1) ∧ w'.cell? ⟨(ad.add (a * 3)).block, (ad.add (a * 3)).off + 2, none⟩ = some (.int .i64 t.f2)) (ds := [11]) #[false, false, false, false, false, false, false, false, false, false, false, false] (by kernel_rfl) rfl rfl ⟨c0, c1, x0, x1, x2⟩ (fun hHeld => ?_)
     refine pure_ (i := 0) (N := some 7) (v := ?_) (a' := ?_) #[true, false, false, false, false, false, false, false, false, false, false, false] rfl rfl (by kernel_rfl) (fun _ _ _ h => h) (Or.inl ⟨by rfl, ?_⟩) ?_ ?_
     rotate_left
     ·
      intro w'
      go_simp
      with_reducible rfl
     rotate_left
     ·
      simp only [Act.put, List.setIfInBounds_toArray, List.set_cons_zero, List.set_cons_succ, i64_w, i32_w]
      rfl
     refine pure_ (i := 1) (N := some 8) (v := ?_) (a' := ?_) #[true, true, false, false, false, false, false, false, false, false, false, false] rfl rfl (by kernel_rfl) (fun _ _ _ h => h) (Or.inl ⟨by rfl, ?_⟩) ?_ ?_
     rotate_left
     ·
      intro w'
      go_simp
      with_reducible rfl
     rotate_left
     ·
      simp only [Act.put, List.setIfInBounds_toArray, List.set_cons_zero, List.set_cons_succ, i64_w, i32_w]
      rfl
     refine pure_ (i := 2) (N := some 9) (v := ?_) (a' := ?_) #[true, true, true, false, false, false, false, false, false, false, false, false] rfl rfl (by kernel_rfl) (fun _ _ _ h => h) (Or.inl ⟨by rfl, ?_⟩) ?_ ?_
     rotate_left
     ·
      intro w'
      go_simp
      with_reducible rfl
     rotate_left
     ·
      simp only [Act.put, List.setIfInBounds_toArray, List.set_cons_zero, List.set_cons_succ, i64_w, i32_w]
      rfl
     refine pure_ (i := 4) (N := some 11) (v := ?_) (a' := ?_) #[true, true, true, false, true, false, false, false, false, false, false, false] rfl rfl (by kernel_rfl) (fun _ _ _ h => h) (Or.inl ⟨by rfl, ?_⟩) ?_ ?_
     rotate_left
     ·
      intro w'
      go_simp
      with_reducible rfl
     rotate_left
     ·
      simp only [Act.put, List.setIfInBounds_toArray, List.set_cons_zero, List.set_cons_succ, i64_w, i32_w]
      rfl
     refine pure_ (i := 5) (N := some 12) (v := ?_) (a' := ?_) #[true, true, true, false, true, true, false, false, false, false, false, false] rfl rfl (by kernel_rfl) (fun _ _ _ h => h) (Or.inl ⟨by rfl, ?_⟩) ?_ ?_
     rotate_left
     ·
      intro w'
      go_simp
      with_reducible rfl
     rotate_left
     ·
      simp only [Act.put, List.setIfInBounds_toArray, List.set_cons_zero, List.set_cons_succ, i64_w, i32_w]
      rfl
     refine pure_ (i := 6) (N := some 13) (v := ?_) (a' := ?_) #[true, true, true, false, true, true, true, false, false, false, false, false] rfl rfl (by kernel_rfl) (fun _ _ _ h => h) (Or.inl ⟨by rfl, ?_⟩) ?_ ?_
     rotate_left
     ·
      intro w'
      go_simp
      with_reducible rfl
     rotate_left
     ·
      simp only [Act.put, List.setIfInBounds_toArray, List.set_cons_zero, List.set_cons_succ, i64_w, i32_w]
      rfl
     refine take_ (i := 3) (N := some 10) (v := ?_) (a' := ?_) #[true, true, true, true, true, true, true, false, false, false, false, false] rfl rfl (by kernel_rfl) (fun _ _ _ h => h) (Or.inl ⟨by rfl, ?_⟩) hHeld ?_ ?_
     rotate_left
     ·
      rintro w' ⟨s0, s1, s2, s3, s4⟩
      go_simp
      with_reducible rfl
     rotate_left
     ·
      simp only [Act.put, List.setIfInBounds_toArray, List.set_cons_zero, List.set_cons_succ, i64_w, i32_w]
      rfl
     refine take_ (i := 7) (N := some 14) (v := ?_) (a' := ?_) #[true, true, true, true, true, true, true, true, false, false, false, false] rfl rfl (by kernel_rfl) (fun _ _ _ h => h) (Or.inl ⟨by rfl, ?_⟩) hHeld ?_ ?_
     rotate_left
     ·
      rintro w' ⟨s0, s1, s2, s3, s4⟩
      go_simp
      with_reducible rfl
     rotate_left
     ·
      simp only [Act.put, List.setIfInBounds_toArray, List.set_cons_zero, List.set_cons_succ, i64_w, i32_w]
      rfl
     refine pure_ (i := 8) (N := some 15) (v := ?_) (a' := ?_) #[true, true, true, true, true, true, true, true, true, false, false, false] rfl rfl (by kernel_rfl) (fun _ _ _ h => h) (Or.inl ⟨by rfl, ?_⟩) ?_ ?_
     rotate_left
     ·
      intro w'
      go_simp
      with_reducible rfl
     rotate_left
     ·
      simp only [Act.put, List.setIfInBounds_toArray, List.set_cons_zero, List.set_cons_succ, i64_w, i32_w]
      rfl
     refine take_ (i := 9) (N := some 16) (v := ?_) (a' := ?_) #[true, true, true, true, true, true, true, true, true, true, false, false] rfl rfl (by kernel_rfl) (fun _ _ _ h => h) (Or.inl ⟨by rfl, ?_⟩) hHeld ?_ ?_
     rotate_left
     ·
      rintro w' ⟨s0, s1, s2, s3, s4⟩
      go_simp
      with_reducible rfl
     rotate_left
     ·
      simp only [Act.put, List.setIfInBounds_toArray, List.set_cons_zero, List.set_cons_succ, i64_w, i32_w]
      rfl
     refine one_ (i := 10) (N := some 4) #[true, true, true, true, true, true, true, true, true, true, true, false] rfl rfl (by kernel_rfl) (by decide) (fun K hK => ?_)
     refine box_step ?hg (N := 4) ?hd (cs := #[.int .u8 0, .string (⟨#[]⟩ : ByteArray), .int .i64 0]) (t := 61) ?hr ?_; (case hd => rfl); (case hg => rfl); (case hr => exact qbf1)
     intro q hq w2 hbox hb
     have HR2 := Aside0.mk (HR1.out.below hb)
     have F2 := Aside0.mk (F1.out.trans (FR.of_below hb))
     have BQ := Aside0.mk hbox
     have GQ := Aside0.mk (show W.heap.size ≤ q by rw [hq]; exact Nat.le_trans HF.out.size F1.out.size)
     have GR := Aside0.mk (show wr.heap.size ≤ q by rw [hq]; exact F1.out.size)
     have NG := Aside0.mk (show g ≠ q by rw [hq]; exact Nat.ne_of_lt (blk_lt HR1.out.blk))
     clear hq hbox
     refine hK.out _ _ ⟨((hb.cell (World.block_lt_of_cell? _ _ hHeld.1)).trans hHeld.1), ((hb.cell (World.block_lt_of_cell? _ _ hHeld.2.1)).trans hHeld.2.1), ((hb.cell (World.block_lt_of_cell? _ _ hHeld.2.2.1)).trans hHeld.2.2.1), ((hb.cell (World.block_lt_of_cell? _ _ hHeld.2.2.2.1)).trans hHeld.2.2.2.1), ((hb.cell (World.block_lt_of_cell? _ _ hHeld.2.2.2.2)).trans hHeld.2.2.2.2)⟩ (fun hHeld => ?_)
     clear hK K
     refine norm_ (a' := ?_) ?_ ?_
     rotate_left
     ·
      show Act.put _ (some 4) _ = _
      simp only [Act.put, List.setIfInBounds_toArray, List.set_cons_zero, List.set_cons_succ, i64_w, i32_w]
      rfl
     refine last_ (i := 11) (N := none) #[true, true, true, true, true, true, true, true, true, true, true, true] rfl rfl (by kernel_rfl) (by decide) (fun K hK => ?_)
     have z0 := bc0 BQ.out
     have z1 := bc1 BQ.out
     have z2 := bc2 BQ.out
     have y0 := blk_frozen BQ.out 0
     have y1 := blk_frozen BQ.out 1
     have y2 := blk_frozen BQ.out 2
     refine skip_ (w1 := ?_) (by rfl) rfl ?_ ?_
     rotate_left
     ·
      go_simp
      rfl
     refine hK.out _ _ ?_
     clear hK K
     refine done_ (by kernel_rfl) ?_
     obtain ⟨w3, hw3, HR3, F3, BQ3⟩ : ∃ V, (((w2.setCell ⟨q, 0, none⟩ (.int .u8 t.f0)).setCell ⟨q, 1, none⟩ (.string t.f1)).setCell ⟨q, 2, none⟩ (.int .i64 t.f2)) = V ∧ Aside0 (RD w0 V g (some ad) c l a) ∧ Aside0 (FR wr V g) ∧ Aside0 (V.heap[q]? = some (.cells #[.int .u8 t.f0, .string t.f1, .int .i64 t.f2] 61 (0, 0))) := ⟨_, rfl, ⟨((HR2.out.other NG.out (Nat.le_trans HW0.out GQ.out) _ _).other NG.out (Nat.le_trans HW0.out GQ.out) _ _).other NG.out (Nat.le_trans HW0.out GQ.out) _ _⟩, ⟨((F2.out.setq GR.out _ _).setq GR.out _ _).setq GR.out _ _⟩, ⟨put3q BQ.out⟩⟩
     rw [hw3]
     clear hw3 z0 z1 z2 y0 y1 y2 c0 c1 x0 x1 x2 HR1 HR2 F1 F2 BQ
     have g0 := bc0 BQ3.out
     have gf0 := blk_frozen BQ3.out 0
     have g1 := bc1 BQ3.out
     have gf1 := blk_frozen BQ3.out 1
     have g2 := bc2 BQ3.out
     have gf2 := blk_frozen BQ3.out 2
     go_wp2_with (first | (go_at_call 28; (with_reducible refine (line_plain.calls t.f0 t.f1 t.f2 false _ HP.out).mono ?_); rintro e w4 ⟨rfl, hb⟩; have HR4 := Aside0.mk (HR3.out.below hb); have F4 := Aside0.mk (F3.out.trans (FR.of_below hb)); have BQ4 := Aside0.mk (blk_below BQ3.out hb); clear hb; have c0 := bc0 BQ4.out; have cf0 := blk_frozen BQ4.out 0; have c1 := bc1 BQ4.out; have cf1 := blk_frozen BQ4.out 1; have c2 := bc2 BQ4.out; have cf2 := blk_frozen BQ4.out 2;  skip) | (go_at_call 45; (with_reducible refine (line_counted.calls t.f0 t.f1 t.f2 true _ HCT.out).mono ?_); rintro e w5 ⟨rfl, hb⟩; have HR5 := Aside0.mk (HR4.out.below hb); have F5 := Aside0.mk (F4.out.trans (FR.of_below hb)); have BQ5 := Aside0.mk (blk_below BQ4.out hb); clear hb; have v0 := bc0 BQ5.out; have vf0 := blk_frozen BQ5.out 0; have v1 := bc1 BQ5.out; have vf1 := blk_frozen BQ5.out 1; have v2 := bc2 BQ5.out; have vf2 := blk_frozen BQ5.out 2;  skip) | (go_at_call 46; have hT5 := Lib.tabBelow_of_tabIs HT.out _ HR5.out.bel; (with_reducible refine (strconv_Itoa.calls t.f2 s _ hT5 HI.out).mono ?_); rintro e w6 ⟨rfl, hb⟩; have HR6 := Aside0.mk (HR5.out.below hb); have F6 := Aside0.mk (F5.out.trans (FR.of_below hb)); clear hb hT5) | ((with_reducible refine gate_builtin (b := .append) (xs := #[.tmp 29, .tmp 33]) rfl ?_); at_builtin; refine Kd.R_append Kd.string (w0 := w6) (W := w6) W.heap.size rfl (.tmp 29) (.tmp 33) 22 9 (.string ⟨#[]⟩) 16 rfl Tryz.underlying22 info9 rfl (by decide) (by omega) (.slice A2 _ q2) out s [.string s] (fun k => k ≠ g) (fun _ => False) rfl rfl ?aP (fun _ hk => hk.elim) ?aF (R_fg HO.out (F6.out)) ?aB ?aS ?aL ?_; (case aP => exact rfl); (case aF => exact fun k hk => by have := HGL.out; have := HF.out.size; have := F6.out.size; omega); (case aB => exact Below.refl _ _); (case aS => exact Nat.le_trans HF.out.size F6.out.size); (case aL => have := HN.out; have := HL.out; omega); intro v7 w7 ho hb7 hg7 _; obtain ⟨A7, q7, rfl⟩ := Kd.R_slice ho; have R7 := Aside0.mk ho; have F7 : Aside0 (FR W w7 g) := ⟨⟨Nat.le_trans HF.out.size (Nat.le_trans F6.out.size hb7.size), fun k hk hn => (hb7.block k hk).trans ((HF.out.trans F6.out).keep k hk hn)⟩⟩; have HR7 : Aside0 (RD w0 w7 g (some ad) c l a) := ⟨⟨(hb7.block g HGL.out).trans HR6.out.blk, HR6.out.ge, below_weaken HR6.out.bel HW0.out hb7, HR6.out.row, HR6.out.cap⟩⟩; have u1 := HR7.out.cell1; have uf := blk_frozen HR7.out.blk 1; clear ho hb7 hg7))
     go_roundw
     case rel => exact ⟨a2, out ++ [s], (by first | rfl | trivial), HK2, ⟨by have h7 := R7.out; rw [show (out ++ [s]).length = out.length + 1 by simp] at h7; exact R_fg h7 ((FR.same rfl : FR w7 w7 g).set 1 (.int .i64 (a2 : Int)))⟩, ⟨by have := HN.out; have := E2.out; have := HLT.out; rw [show (out ++ [s]).length = out.length + 1 by simp]; exact ⟨by omega, by omega⟩⟩, ⟨HR7.out.seti a2⟩, ⟨F7.out.set _ _⟩⟩
     case measure => have := HN.out; have := HL.out; have := HLT.out; first | (simp; done) | (simp; omega)
    | false =>
     rw [hc, if_neg (by simp)] at hk
     have RES := Aside0.mk hk
     have HCT : Aside0 (line_counted.f t.f0 t.f1 t.f2 = some false) := ⟨by rw [HCF.out, hc]⟩
     clear hk hp hc hfu hd hmem ht hm hj e2 hlt HPF HCF
     go_wp2_with (first | (go_at_call 44; (with_reducible refine (is_walk w0 _ g A c l a (a + 1) 1 58 hb1 HR.out true HC.out).mono ?_); rintro e w1 ⟨rfl, ⟨nd, rfl⟩⟩))
     have HR1 := Aside0.mk (HR.out.drewN nd).drew
     have F1 : Aside0 (FR wr (wr.drewN nd).drew g) := ⟨FR.same rfl⟩
     have c0 := (HR.out.drewN nd).cell0
     have c1 := (HR.out.drewN nd).cell1
     obtain ⟨ad, rfl, x0, x1, x2⟩ := (HR.out.drewN nd).tok2 a t HTT.out
     refine start_ (n := 12) (S := fun w' => w'.cell? ⟨g, 0, none⟩ = some (.slice (some ad) l.length c) ∧ w'.cell? ⟨g, 1, none⟩ = some (.int .i64 (a : Int)) ∧ w'.cell? (ad.add (a * 3)) = some (.int .u8 t.f0) ∧ w'.cell? ⟨(ad.add (a * 3)).block, (ad.add (a * 3)).off + 1, none⟩ = some (.string t.f1) ∧ w'.cell? ⟨(ad.add (a * 3)).block, (ad.add (a * 3)).off + 2, none⟩ = some (.int .i64 t.f2)) (ds := [11]) #[false, false, false, false, false, false, false, false, false, false, false, false] (by kernel_rfl) rfl rfl ⟨c0, c1, x0, x1, x2⟩ (fun hHeld => ?_)
     refine pure_ (i := 0) (N := some 7) (v := ?_) (a' := ?_) #[true, false, false, false, false, false, false, false, false, false, false, false] rfl rfl (by kernel_rfl) (fun _ _ _ h => h) (Or.inl ⟨by rfl, ?_⟩) ?_ ?_
     rotate_left
     ·
      intro w'
      go_simp
      with_reducible rfl
     rotate_left
     ·
      simp only [Act.put, List.setIfInBounds_toArray, List.set_cons_zero, List.set_cons_succ, i64_w, i32_w]
      rfl
     refine pure_ (i := 1) (N := some 8) (v := ?_) (a' := ?_) #[true, true, false, false, false, false, false, false, false, false, false, false] rfl rfl (by kernel_rfl) (fun _ _ _ h => h) (Or.inl ⟨by rfl, ?_⟩) ?_ ?_
     rotate_left
     ·
      intro w'
      go_simp
      with_reducible rfl
     rotate_left
     ·
      simp only [Act.put, List.setIfInBounds_toArray, List.set_cons_zero, List.set_cons_succ, i64_w, i32_w]
      rfl
     refine pure_ (i := 2) (N := some 9) (v := ?_) (a' := ?_) #[true, true, true, false, false, false, false, false, false, false, false, false] rfl rfl (by kernel_rfl) (fun _ _ _ h => h) (Or.inl ⟨by rfl, ?_⟩) ?_ ?_
     rotate_left
     ·
      intro w'
      go_simp
      with_reducible rfl
     rotate_left
     ·
      simp only [Act.put, List.setIfInBounds_toArray, List.set_cons_zero, List.set_cons_succ, i64_w, i32_w]
      rfl
     refine pure_ (i := 4) (N := some 11) (v := ?_) (a' := ?_) #[true, true, true, false, true, false, false, false, false, false, false, false] rfl rfl (by kernel_rfl) (fun _ _ _ h => h) (Or.inl ⟨by rfl, ?_⟩) ?_ ?_
     rotate_left
     ·
      intro w'
      go_simp
      with_reducible rfl
     rotate_left
     ·
      simp only [Act.put, List.setIfInBounds_toArray, List.set_cons_zero, List.set_cons_succ, i64_w, i32_w]
      rfl
     refine pure_ (i := 5) (N := some 12) (v := ?_) (a' := ?_) #[true, true, true, false, true, true, false, false, false, false, false, false] rfl rfl (by kernel_rfl) (fun _ _ _ h => h) (Or.inl ⟨by rfl, ?_⟩) ?_ ?_
     rotate_left
     ·
      intro w'
      go_simp
      with_reducible rfl
     rotate_left
     ·
      simp only [Act.put, List.setIfInBounds_toArray, List.set_cons_zero, List.set_cons_succ, i64_w, i32_w]
      rfl
     refine pure_ (i := 6) (N := some 13) (v := ?_) (a' := ?_) #[true, true, true, false, true, true, true, false, false, false, false, false] rfl rfl (by kernel_rfl) (fun _ _ _ h => h) (Or.inl ⟨by rfl, ?_⟩) ?_ ?_
     rotate_left
     ·
      intro w'
      go_simp
      with_reducible rfl
     rotate_left
     ·
      simp only [Act.put, List.setIfInBounds_toArray, List.set_cons_zero, List.set_cons_succ, i64_w, i32_w]
      rfl
     refine take_ (i := 3) (N := some 10) (v := ?_) (a' := ?_) #[true, true, true, true, true, true, true, false, false, false, false, false] rfl rfl (by kernel_rfl) (fun _ _ _ h => h) (Or.inl ⟨by rfl, ?_⟩) hHeld ?_ ?_
     rotate_left
     ·
      rintro w' ⟨s0, s1, s2, s3, s4⟩
      go_simp
      with_reducible rfl
     rotate_left
     ·
      simp only [Act.put, List.setIfInBounds_toArray, List.set_cons_zero, List.set_cons_succ, i64_w, i32_w]
      rfl
     refine take_ (i := 7) (N := some 14) (v := ?_) (a' := ?_) #[true, true, true, true, true, true, true, true, false, false, false, false] rfl rfl (by kernel_rfl) (fun _ _ _ h => h) (Or.inl ⟨by rfl, ?_⟩) hHeld ?_ ?_
     rotate_left
     ·
      rintro w' ⟨s0, s1, s2, s3, s4⟩
      go_simp
      with_reducible rfl
     rotate_left
     ·
      simp only [Act.put, List.setIfInBounds_toArray, List.set_cons_zero, List.set_cons_succ, i64_w, i32_w]
      rfl
     refine pure_ (i := 8) (N := some 15) (v := ?_) (a' := ?_) #[true, true, true, true, true, true, true, true, true, false, false, false] rfl rfl (by kernel_rfl) (fun _ _ _ h => h) (Or.inl ⟨by rfl, ?_⟩) ?_ ?_
     rotate_left
     ·
      intro w'
      go_simp
      with_reducible rfl
     rotate_left
     ·
      simp only [Act.put, List.setIfInBounds_toArray, List.set_cons_zero, List.set_cons_succ, i64_w, i32_w]
      rfl
     refine take_ (i := 9) (N := some 16) (v := ?_) (a' := ?_) #[true, true, true, true, true, true, true, true, true, true, false, false] rfl rfl (by kernel_rfl) (fun _ _ _ h => h) (Or.inl ⟨by rfl, ?_⟩) hHeld ?_ ?_
     rotate_left
     ·
      rintro w' ⟨s0, s1, s2, s3, s4⟩
      go_simp
      with_reducible rfl
     rotate_left
     ·
      simp only [Act.put, List.setIfInBounds_toArray, List.set_cons_zero, List.set_cons_succ, i64_w, i32_w]
      rfl
     refine one_ (i := 10) (N := some 4) #[true, true, true, true, true, true, true, true, true, true, true, false] rfl rfl (by kernel_rfl) (by decide) (fun K hK => ?_)
     refine box_step ?hg (N := 4) ?hd (cs := #[.int .u8 0, .string (⟨#[]⟩ : ByteArray), .int .i64 0]) (t := 61) ?hr ?_; (case hd => rfl); (case hg => rfl); (case hr => exact qbf1)
     intro q hq w2 hbox hb
     have HR2 := Aside0.mk (HR1.out.below hb)
     have F2 := Aside0.mk (F1.out.trans (FR.of_below hb))
     have BQ := Aside0.mk hbox
     have GQ := Aside0.mk (show W.heap.size ≤ q by rw [hq]; exact Nat.le_trans HF.out.size F1.out.size)
     have GR := Aside0.mk (show wr.heap.size ≤ q by rw [hq]; exact F1.out.size)
     have NG := Aside0.mk (show g ≠ q by rw [hq]; exact Nat.ne_of_lt (blk_lt HR1.out.blk))
     clear hq hbox
     refine hK.out _ _ ⟨((hb.cell (World.block_lt_of_cell? _ _ hHeld.1)).trans hHeld.1), ((hb.cell (World.block_lt_of_cell? _ _ hHeld.2.1)).trans hHeld.2.1), ((hb.cell (World.block_lt_of_cell? _ _ hHeld.2.2.1)).trans hHeld.2.2.1), ((hb.cell (World.block_lt_of_cell? _ _ hHeld.2.2.2.1)).trans hHeld.2.2.2.1), ((hb.cell (World.block_lt_of_cell? _ _ hHeld.2.2.2.2)).trans hHeld.2.2.2.2)⟩ (fun hHeld => ?_)
     clear hK K
     refine norm_ (a' := ?_) ?_ ?_
     rotate_left
     ·
      show Act.put _ (some 4) _ = _
      simp only [Act.put, List.setIfInBounds_toArray, List.set_cons_zero, List.set_cons_succ, i64_w, i32_w]
      rfl
     refine last_ (i := 11) (N := none) #[true, true, true, true, true, true, true, true, true, true, true, true] rfl rfl (by kernel_rfl) (by decide) (fun K hK => ?_)
     have z0 := bc0 BQ.out
     have z1 := bc1 BQ.out
     have z2 := bc2 BQ.out
     have y0 := blk_frozen BQ.out 0
     have y1 := blk_frozen BQ.out 1
     have y2 := blk_frozen BQ.out 2
     refine skip_ (w1 := ?_) (by rfl) rfl ?_ ?_
     rotate_left
     ·
      go_simp
      rfl
     refine hK.out _ _ ?_
     clear hK K
     refine done_ (by kernel_rfl) ?_
     obtain ⟨w3, hw3, HR3, F3, BQ3⟩ : ∃ V, (((w2.setCell ⟨q, 0, none⟩ (.int .u8 t.f0)).setCell ⟨q, 1, none⟩ (.string t.f1)).setCell ⟨q, 2, none⟩ (.int .i64 t.f2)) = V ∧ Aside0 (RD w0 V g (some ad) c l a) ∧ Aside0 (FR wr V g) ∧ Aside0 (V.heap[q]? = some (.cells #[.int .u8 t.f0, .string t.f1, .int .i64 t.f2] 61 (0, 0))) := ⟨_, rfl, ⟨((HR2.out.other NG.out (Nat.le_trans HW0.out GQ.out) _ _).other NG.out (Nat.le_trans HW0.out GQ.out) _ _).other NG.out (Nat.le_trans HW0.out GQ.out) _ _⟩, ⟨((F2.out.setq GR.out _ _).setq GR.out _ _).setq GR.out _ _⟩, ⟨put3q BQ.out⟩⟩
     rw [hw3]
     clear hw3 z0 z1 z2 y0 y1 y2 c0 c1 x0 x1 x2 HR1 HR2 F1 F2 BQ
     have g0 := bc0 BQ3.out
     have gf0 := blk_frozen BQ3.out 0
     have g1 := bc1 BQ3.out
     have gf1 := blk_frozen BQ3.out 1
     have g2 := bc2 BQ3.out
     have gf2 := blk_frozen BQ3.out 2
     go_wp2_with (first | (go_at_call 28; (with_reducible refine (line_plain.calls t.f0 t.f1 t.f2 false _ HP.out).mono ?_); rintro e w4 ⟨rfl, hb⟩; have HR4 := Aside0.mk (HR3.out.below hb); have F4 := Aside0.mk (F3.out.trans (FR.of_below hb)); have BQ4 := Aside0.mk (blk_below BQ3.out hb); clear hb; have c0 := bc0 BQ4.out; have cf0 := blk_frozen BQ4.out 0; have c1 := bc1 BQ4.out; have cf1 := blk_frozen BQ4.out 1; have c2 := bc2 BQ4.out; have cf2 := blk_frozen BQ4.out 2;  skip) | (go_at_call 45; (with_reducible refine (line_counted.calls t.f0 t.f1 t.f2 false _ HCT.out).mono ?_); rintro e w5 ⟨rfl, hb⟩; have HR5 := Aside0.mk (HR4.out.below hb); have F5 := Aside0.mk (F4.out.trans (FR.of_below hb)); have BQ5 := Aside0.mk (blk_below BQ4.out hb); clear hb; have v0 := bc0 BQ5.out; have vf0 := blk_frozen BQ5.out 0; have v1 := bc1 BQ5.out; have vf1 := blk_frozen BQ5.out 1; have v2 := bc2 BQ5.out; have vf2 := blk_frozen BQ5.out 2;  skip))
     first | go_ret | (rw [Exit.noGoto_ret]; go_ret)
     obtain ⟨rfl, rfl⟩ := Prod.mk.inj RES.out
     exact ⟨_, rfl, R_fg HO.out F5.out, HF.out.trans F5.out, HR5.out⟩
theorem below_both {n : Nat} {w W : World} (h : Below n w W) (a : Addr) (v : Value) (hl : a.block < n) (hn : n ≤ w.heap.size) : Below n (w.setCell a v) (W.setCell a v) := by
 refine ⟨h.os, h.tape, h.output, by simpa using h.size, fun i hi => ?_⟩
 by_cases c : i = a.block
 ·
  subst c
  have e := h.block a.block hi
  unfold World.setCell
  simp only [Array.getElem?_modify, e]
 ·
  rw [Below.heap_setCell W a v i c, Below.heap_setCell w a v i c]
  exact h.block i hi
theorem tok_row {W w1 : World} {v : Value} {l : List S61} {p b : Nat} {cs : Array Value} {t : TypeId} (h : Kd.R k61 61 W w1.heap.size (fun _ => True) v l) (hp : w1.heap[p]? = some (.cells cs t (0, 0))) (hb : b ≤ p) : Kd.R k61 61 W b (fun k => k ≠ p) v l :=
 Kd.R_lower (Kd.R_reok rfl h (fun k hk => by have := Kd.R_base h k hk; have := blk_lt hp; omega)) (by have := blk_lt hp; omega)
structure FR2 (W W' : World) (g p : Nat) : Prop where
 size : W.heap.size ≤ W'.heap.size
 keep : ∀ k, k < W.heap.size → k ≠ g → k ≠ p → W'.heap[k]? = W.heap[k]?
theorem FR2.same {W W' : World} {g p : Nat} (h : W'.heap = W.heap) : FR2 W W' g p := ⟨by rw [h]; exact Nat.le_refl _, fun _ _ _ _ => by rw [h]⟩
theorem FR2.of {W W' : World} {g p : Nat} (h : FR W W' g) : FR2 W W' g p := ⟨h.size, fun k hk hn _ => h.keep k hk hn⟩
theorem FR2.trans {W W1 W2 : World} {g p : Nat} (h : FR2 W W1 g p) (k : FR2 W1 W2 g p) : FR2 W W2 g p := ⟨Nat.le_trans h.size k.size, fun b hb hn hm => (k.keep b (Nat.lt_of_lt_of_le hb h.size) hn hm).trans (h.keep b hb hn hm)⟩
theorem FR2.setp {W W1 : World} {g p : Nat} (h : FR2 W W1 g p) (j : Nat) (v : Value) : FR2 W (W1.setCell ⟨p, j, none⟩ v) g p := ⟨Nat.le_trans h.size (Nat.le_of_eq (by simp)), fun b hb hn hm => (Below.heap_setCell W1 ⟨p, j, none⟩ v b hm).trans (h.keep b hb hn hm)⟩
theorem R_fg2 {α : Type} {d : Kd α} {e base g p : Nat} {W W' : World} {v : Value} {xs : List α} (h : Kd.R d e W base (fun k => k ≠ g ∧ k ≠ p) v xs) (hf : FR2 W W' g p) : Kd.R d e W' base (fun k => k ≠ g ∧ k ≠ p) v xs := Kd.R_step h (fun k ho hlt => hf.keep k hlt ho.1 ho.2)
theorem row2 {α : Type} {d : Kd α} {e base b g p : Nat} {W : World} {v : Value} {xs : List α} (h : Kd.R d e W base (fun k => k ≠ g) v xs) (hp : p < base) (hb : b ≤ base) (hE : d.E = [] := by rfl) : Kd.R d e W b (fun k => k ≠ g ∧ k ≠ p) v xs :=
 Kd.R_lower (Kd.R_reok hE h (fun k hk => ⟨h.1 k hk, by have := Kd.R_base h k hk; omega⟩)) hb
structure RS (w w2 B W : World) (g p : Nat) (A : Option Addr) (c : Nat) (l : List S61) (a : Nat) (cs : Array Value) : Prop where
 rd : RD w2 W g A c l a
 box : W.heap[p]? = some (.cells cs 25 (0, 0))
 gp : w.heap.size ≤ p
 pl : p < w2.heap.size
 pre : Below w.heap.size w w2
 ne : g ≠ p
 tk : Kd.R k61 61 w2 w.heap.size (fun k => k ≠ p) (.slice A l.length c) l
 fr : FR2 B W g p
section
variable {w w2 B W W1 : World} {g p c a : Nat} {A : Option Addr} {l : List S61} {cs : Array Value}
theorem RS.drewN (h : RS w w2 B W g p A c l a cs) (n : Nat) : RS w w2 B (W.drewN n) g p A c l a cs := ⟨h.rd.drewN n, blk_drewN h.box n, h.gp, h.pl, h.pre, h.ne, h.tk, h.fr.trans (FR2.same rfl)⟩
theorem RS.drew (h : RS w w2 B W g p A c l a cs) : RS w w2 B W.drew g p A c l a cs := ⟨h.rd.drew, blk_drew h.box, h.gp, h.pl, h.pre, h.ne, h.tk, h.fr.trans (FR2.same rfl)⟩
theorem RS.below (h : RS w w2 B W g p A c l a cs) (hb : Below W.heap.size W W1) : RS w w2 B W1 g p A c l a cs := ⟨h.rd.below hb, blk_below h.box hb, h.gp, h.pl, h.pre, h.ne, h.tk, h.fr.trans (FR2.of (FR.of_below hb))⟩
theorem RS.step (h : RS w w2 B W g p A c l a cs) {a' : Nat} (hf : FR W W1 g) (hr : RD w2 W1 g A c l a') : RS w w2 W1 W1 g p A c l a' cs := ⟨hr, hf.blk h.box h.ne.symm, h.gp, h.pl, h.pre, h.ne, h.tk, FR2.same rfl⟩
theorem RS.seti (h : RS w w2 B W g p A c l a cs) (a' : Nat) : RS w w2 B (W.setCell ⟨g, 1, none⟩ (.int .i64 (a' : Int))) g p A c l a' cs := ⟨h.rd.seti a', blk_far h.box h.ne.symm _, h.gp, h.pl, h.pre, h.ne, h.tk, h.fr.trans (FR2.of ((FR.same rfl : FR W W g).set _ _))⟩
theorem RS.setp (h : RS w w2 B W g p A c l a cs) {cs' : Array Value} (j : Nat) (v : Value) (e : cs.setIfInBounds j v = cs') : RS w (w2.setCell ⟨p, j, none⟩ v) B (W.setCell ⟨p, j, none⟩ v) g p A c l a cs' := by
 have tk := Kd.R_step (w1 := w2.setCell ⟨p, j, none⟩ v) h.tk (fun k hk _ => Below.heap_setCell w2 ⟨p, j, none⟩ v k hk)
 have hs : (w2.setCell ⟨p, j, none⟩ v).heap.size = w2.heap.size := by simp
 refine ⟨⟨blk_far h.rd.blk h.ne _, by rw [hs]; exact h.rd.ge, ?_, (Kd.R_reads' tk).2.2, h.rd.cap⟩, blk_put h.box j v e, h.gp, by rw [hs]; exact h.pl, below_set h.pre h.gp, h.ne, tk, h.fr.setp _ _⟩
 rw [hs]
 exact below_both h.rd.bel _ _ h.pl (Nat.le_refl _)
theorem RS.all (h : RS w w2 B W g p A c l a cs) : Below w.heap.size w W := below_step h.pre h.rd.bel
theorem RS.size (h : RS w w2 B W g p A c l a cs) : w.heap.size ≤ W.heap.size := h.all.size
theorem RS.plt (h : RS w w2 B W g p A c l a cs) : p < W.heap.size := blk_lt h.box
theorem RS.labs {α : Type} {d : Kd α} {e : Nat} {v : Value} {xs : List α} (h : RS w w2 B W g p A c l a cs) (hv : Kd.R d e B w.heap.size (fun k => k ≠ g ∧ k ≠ p) v xs) : Kd.R d e W w.heap.size (fun _ => True) v xs := Kd.R_mono (R_fg2 hv h.fr) (fun _ _ => trivial)
end
set_option maxHeartbeats 8000000 in
set_option maxRecDepth 100000 in
theorem read_err (s : ByteArray) (l : List S61) (er : Int) (w : World) (hE : LexW.LexE w) (hT : Lib.TabIs Tryz.prog w "internal/strconv.uint64pow10" .u64 Lib.pow10Tab) (hD : LexW.LexD w) (hM : ExW.ModsAt w) (hG : LiW.RegsAt w) (hf : lex_Tokens.f s = some (l, er)) (h0 : er ≠ 0) :
  Calls Tryz.prog 18 #[.string s] w fun e w' => ∃ v0 v2, e = .returned (.tuple #[.agg #[v0, .string (⟨#[]⟩ : ByteArray), v2], .int .i64 er]) ∧ Kd.R Kd.string 9 w' w.heap.size (fun _ => True) v0 [] ∧ Kd.R k40 40 w' w.heap.size (fun _ => True) v2 [] ∧ Below w.heap.size w w' := by
 have HE := Aside0.mk hE
 have HT := Aside0.mk hT
 have HD := Aside0.mk hD
 have HM := Aside0.mk hM
 have HG := Aside0.mk hG
 have HF := Aside0.mk hf
 clear hE hT hD hM hG hf
 have r1 : (er != 0) = true := bne_iff_ne.2 h0
 clear h0
 go_enter Tryz.func18, Tryz.ntmps18
 go_wp2_with (first | ((with_reducible refine gate_dst (N := 2) rfl ?_); refine box_event ?hg (N := 2) ?hd (cs := #[.slice none 0 0, .string (⟨#[]⟩ : ByteArray), .slice none 0 0]) (t := 25) ?hr ?_; (case hd => rfl); (case hg => rfl); (case hr => exact qbf1); intro p hg w1 hbox hb; have HB1 := Aside0.mk hb; have BP1 := Aside0.mk hbox; have GP : Aside0 (w.heap.size ≤ p) := ⟨by rw [hg]; exact Nat.le_refl _⟩; clear hb hbox hg) | (go_at_call 25; (with_reducible refine (lex_Tokens.calls s l er _ (HE.out.below HB1.out) HF.out).mono ?_); rintro e w2 ⟨v0, rfl, hr, hb⟩; have TK := Aside0.mk (tok_row hr BP1.out GP.out); have HB2 := Aside0.mk (below_step HB1.out hb); have BP2 := Aside0.mk (blk_below BP1.out hb); obtain ⟨A, c, hv, hcap, hC⟩ := Kd.R_reads hr; subst hv; have CAP := Aside0.mk hcap; have ROW := Aside0.mk hC; clear hr hb hcap hC; have c0 := bc0 BP2.out; have cf0 := blk_frozen BP2.out 0; have c1 := bc1 BP2.out; have cf1 := blk_frozen BP2.out 1; have c2 := bc2 BP2.out; have cf2 := blk_frozen BP2.out 2;  skip))
 refine bodyPost_ret (results_ct rfl _ _ p 25 #[.slice none 0 0, .string (⟨#[]⟩ : ByteArray), .slice none 0 0] (0, 0) _ rfl (BP2.out) Tryz.underlying25 rfl (by kernel_rfl)) rfl ?_
 exact ⟨_, _, rfl, Kd.R_nil _ _ _ _ _, Kd.R_nil _ _ _ _ _, HB2.out⟩

set_option maxHeartbeats 8000000 in
set_option maxRecDepth 100000 in
theorem read_end (s : ByteArray) (l : List S61) (er : Int) (w : World) (hE : LexW.LexE w) (hT : Lib.TabIs Tryz.prog w "internal/strconv.uint64pow10" .u64 Lib.pow10Tab) (hD : LexW.LexD w) (hM : ExW.ModsAt w) (hG : LiW.RegsAt w) (hf : lex_Tokens.f s = some (l, er)) (h0 : er = 0) (hok : okB l) (hl : l.length ≤ 1000000) (hw : ∀ t ∈ l, t.f0 = 1 → 0 < t.f1.size) (labs : List ByteArray) (ae : Nat) (hlb : labelsB l (l.length + 1) 0 [] = (labs, ae)) (hle : l.length ≤ ae) :
  Calls Tryz.prog 18 #[.string s] w fun e w' => ∃ v0 v2, e = .returned (.tuple #[.agg #[v0, .string (⟨#[]⟩ : ByteArray), v2], .int .i64 0]) ∧ Kd.R Kd.string 9 w' w.heap.size (fun _ => True) v0 labs ∧ Kd.R k40 40 w' w.heap.size (fun _ => True) v2 [] ∧ Below w.heap.size w w' := by
 have HE := Aside0.mk hE
 have HT := Aside0.mk hT
 have HD := Aside0.mk hD
 have HM := Aside0.mk hM
 have HG := Aside0.mk hG
 have HF := Aside0.mk hf
 clear hE hT hD hM hG hf
 subst h0
 have r1 : ((0 : Int) != 0) = false := rfl
 have HOK := Aside0.mk hok
 have HL := Aside0.mk hl
 have HW := Aside0.mk hw
 have HLB := Aside0.mk hlb
 clear hok hl hw hlb
 have HEE := Aside0.mk (decide_eq_true hle)
 clear hle
 go_enter Tryz.func18, Tryz.ntmps18
 go_wp2_with (first | ((with_reducible refine gate_dst (N := 2) rfl ?_); refine box_event ?hg (N := 2) ?hd (cs := #[.slice none 0 0, .string (⟨#[]⟩ : ByteArray), .slice none 0 0]) (t := 25) ?hr ?_; (case hd => rfl); (case hg => rfl); (case hr => exact qbf1); intro p hg w1 hbox hb; have HB1 := Aside0.mk hb; have BP1 := Aside0.mk hbox; have GP : Aside0 (w.heap.size ≤ p) := ⟨by rw [hg]; exact Nat.le_refl _⟩; clear hb hbox hg) | (go_at_call 25; (with_reducible refine (lex_Tokens.calls s l 0 _ (HE.out.below HB1.out) HF.out).mono ?_); rintro e w2 ⟨v0, rfl, hr, hb⟩; have TK := Aside0.mk (tok_row hr BP1.out GP.out); have HB2 := Aside0.mk (below_step HB1.out hb); have BP2 := Aside0.mk (blk_below BP1.out hb); obtain ⟨A, c, hv, hcap, hC⟩ := Kd.R_reads hr; subst hv; have CAP := Aside0.mk hcap; have ROW := Aside0.mk hC; clear hr hb hcap hC; have c0 := bc0 BP2.out; have cf0 := blk_frozen BP2.out 0; have c1 := bc1 BP2.out; have cf1 := blk_frozen BP2.out 1; have c2 := bc2 BP2.out; have cf2 := blk_frozen BP2.out 2;  skip) | ((with_reducible refine gate_dst (N := 15) rfl ?_); refine box_event ?hg (N := 15) ?hd (cs := #[.slice A l.length c, .int .i64 0]) (t := 57) ?hr ?_; (case hd => rfl); (case hg => rfl); (case hr => exact qbf1); intro g hg w3 hbox hb; have RS3 : Aside0 (RS w w2 w3 w3 g p A c l 0 #[.slice none 0 0, .string (⟨#[]⟩ : ByteArray), .slice none 0 0]) := ⟨⟨⟨hbox, by rw [hg]; exact Nat.le_refl _, hb, ROW.out, CAP.out⟩, blk_below BP2.out hb, GP.out, blk_lt BP2.out, HB2.out, by rw [hg]; exact (Nat.ne_of_lt (blk_lt BP2.out)).symm, TK.out, FR2.same rfl⟩⟩; clear hb hbox hg) | (go_at_call 26; have hT2 := Lib.tabBelow_of_tabIs HT.out _ HB2.out; (with_reducible refine (labels_walk w2 _ g A c l HL.out HW.out hT2 RS3.out.rd labs ae HLB.out).mono ?_); rintro e w4 ⟨vl, rfl, hv, hf, hr⟩; obtain ⟨Al, ql, hvl⟩ := Kd.R_slice hv; subst hvl; have HV4 := Aside0.mk (row2 hv RS3.out.plt RS3.out.size); have RS4 := Aside0.mk (RS3.out.step hf hr); have b0 := bc0 RS4.out.box; have bf0 := blk_frozen RS4.out.box 0; have b1 := bc1 RS4.out.box; have bf1 := blk_frozen RS4.out.box 1; have b2 := bc2 RS4.out.box; have bf2 := blk_frozen RS4.out.box 2;  clear hv hf hr hT2) | (go_at_call 27; (with_reducible refine (end_walk _ _ g A c l ae (RS4.out.setp (cs' := #[.slice Al labs.length ql, .string (⟨#[]⟩ : ByteArray), .slice none 0 0]) 0 (.slice Al labs.length ql) rfl).rd true HEE.out).mono ?_); rintro e w6 ⟨rfl, ⟨nd, rfl⟩⟩))
 have RS6 := Aside0.mk ((RS4.out.setp (cs' := #[.slice Al labs.length ql, .string (⟨#[]⟩ : ByteArray), .slice none 0 0]) 0 (.slice Al labs.length ql) rfl).drewN nd)
 refine bodyPost_ret (results_ct rfl _ _ p 25 #[.slice Al labs.length ql, .string (⟨#[]⟩ : ByteArray), .slice none 0 0] (0, 0) _ rfl (RS6.out.box) Tryz.underlying25 rfl (by kernel_rfl)) rfl ?_
 exact ⟨_, _, rfl, RS6.out.labs HV4.out, Kd.R_nil _ _ _ _ _, RS6.out.all⟩

set_option maxHeartbeats 8000000 in
set_option maxRecDepth 100000 in
theorem read_bad (s : ByteArray) (l : List S61) (er : Int) (w : World) (hE : LexW.LexE w) (hT : Lib.TabIs Tryz.prog w "internal/strconv.uint64pow10" .u64 Lib.pow10Tab) (hD : LexW.LexD w) (hM : ExW.ModsAt w) (hG : LiW.RegsAt w) (hf : lex_Tokens.f s = some (l, er)) (h0 : er = 0) (hok : okB l) (hl : l.length ≤ 1000000) (hw : ∀ t ∈ l, t.f0 = 1 → 0 < t.f1.size) (labs : List ByteArray) (ae : Nat) (hlb : labelsB l (l.length + 1) 0 [] = (labs, ae)) (t : S61) (ht : l[ae]? = some t) (hp : line_plain.f t.f0 t.f1 t.f2 = some false) :
  Calls Tryz.prog 18 #[.string s] w fun e w' => ∃ v0 v2, e = .returned (.tuple #[.agg #[v0, .string (⟨#[]⟩ : ByteArray), v2], .int .i64 170]) ∧ Kd.R Kd.string 9 w' w.heap.size (fun _ => True) v0 [] ∧ Kd.R k40 40 w' w.heap.size (fun _ => True) v2 [] ∧ Below w.heap.size w w' := by
 have HE := Aside0.mk hE
 have HT := Aside0.mk hT
 have HD := Aside0.mk hD
 have HM := Aside0.mk hM
 have HG := Aside0.mk hG
 have HF := Aside0.mk hf
 clear hE hT hD hM hG hf
 subst h0
 have r1 : ((0 : Int) != 0) = false := rfl
 have HOK := Aside0.mk hok
 have HL := Aside0.mk hl
 have HW := Aside0.mk hw
 have HLB := Aside0.mk hlb
 clear hok hl hw hlb
 have HEE : Aside0 (decide (l.length ≤ ae) = false) := ⟨decide_eq_false qbf0⟩
 have hlt := (List.getElem?_eq_some_iff.1 ht).1
 have p0 := eq_true (show (0 : Int) ≤ (ae : Int) by omega)
 have q0 := eq_true (show (ae : Int) < (l.length : Int) by omega)
 have HLT := Aside0.mk hlt
 have HTT := Aside0.mk ht
 clear ht hlt
 have HP := Aside0.mk hp
 clear hp
 go_enter Tryz.func18, Tryz.ntmps18
 go_wp2_with (first | ((with_reducible refine gate_dst (N := 2) rfl ?_); refine box_event ?hg (N := 2) ?hd (cs := #[.slice none 0 0, .string (⟨#[]⟩ : ByteArray), .slice none 0 0]) (t := 25) ?hr ?_; (case hd => rfl); (case hg => rfl); (case hr => exact qbf1); intro p hg w1 hbox hb; have HB1 := Aside0.mk hb; have BP1 := Aside0.mk hbox; have GP : Aside0 (w.heap.size ≤ p) := ⟨by rw [hg]; exact Nat.le_refl _⟩; clear hb hbox hg) | (go_at_call 25; (with_reducible refine (lex_Tokens.calls s l 0 _ (HE.out.below HB1.out) HF.out).mono ?_); rintro e w2 ⟨v0, rfl, hr, hb⟩; have TK := Aside0.mk (tok_row hr BP1.out GP.out); have HB2 := Aside0.mk (below_step HB1.out hb); have BP2 := Aside0.mk (blk_below BP1.out hb); obtain ⟨A, c, hv, hcap, hC⟩ := Kd.R_reads hr; subst hv; have CAP := Aside0.mk hcap; have ROW := Aside0.mk hC; clear hr hb hcap hC; have c0 := bc0 BP2.out; have cf0 := blk_frozen BP2.out 0; have c1 := bc1 BP2.out; have cf1 := blk_frozen BP2.out 1; have c2 := bc2 BP2.out; have cf2 := blk_frozen BP2.out 2;  skip) | ((with_reducible refine gate_dst (N := 15) rfl ?_); refine box_event ?hg (N := 15) ?hd (cs := #[.slice A l.length c, .int .i64 0]) (t := 57) ?hr ?_; (case hd => rfl); (case hg => rfl); (case hr => exact qbf1); intro g hg w3 hbox hb; have RS3 : Aside0 (RS w w2 w3 w3 g p A c l 0 #[.slice none 0 0, .string (⟨#[]⟩ : ByteArray), .slice none 0 0]) := ⟨⟨⟨hbox, by rw [hg]; exact Nat.le_refl _, hb, ROW.out, CAP.out⟩, blk_below BP2.out hb, GP.out, blk_lt BP2.out, HB2.out, by rw [hg]; exact (Nat.ne_of_lt (blk_lt BP2.out)).symm, TK.out, FR2.same rfl⟩⟩; clear hb hbox hg) | (go_at_call 26; have hT2 := Lib.tabBelow_of_tabIs HT.out _ HB2.out; (with_reducible refine (labels_walk w2 _ g A c l HL.out HW.out hT2 RS3.out.rd labs ae HLB.out).mono ?_); rintro e w4 ⟨vl, rfl, hv, hf, hr⟩; obtain ⟨Al, ql, hvl⟩ := Kd.R_slice hv; subst hvl; have HV4 := Aside0.mk (row2 hv RS3.out.plt RS3.out.size); have RS4 := Aside0.mk (RS3.out.step hf hr); have b0 := bc0 RS4.out.box; have bf0 := blk_frozen RS4.out.box 0; have b1 := bc1 RS4.out.box; have bf1 := blk_frozen RS4.out.box 1; have b2 := bc2 RS4.out.box; have bf2 := blk_frozen RS4.out.box 2;  clear hv hf hr hT2) | (go_at_call 27; (with_reducible refine (end_walk _ _ g A c l ae (RS4.out.setp (cs' := #[.slice Al labs.length ql, .string (⟨#[]⟩ : ByteArray), .slice none 0 0]) 0 (.slice Al labs.length ql) rfl).rd false HEE.out).mono ?_); rintro e w6 ⟨rfl, ⟨nd, rfl⟩⟩))
 have RS6 := Aside0.mk ((RS4.out.setp (cs' := #[.slice Al labs.length ql, .string (⟨#[]⟩ : ByteArray), .slice none 0 0]) 0 (.slice Al labs.length ql) rfl).drewN nd)
 refine wp_region_still_tail 10 (by kernel_rfl) (by kernel_rfl) ?_
 change wpStill _ _ (World.drew _) (fun a' => wpList _ _ _ _ a' (World.drew _)) _ _
 obtain ⟨w6, hw_, RSd⟩ : ∃ V, ((w4.setCell ⟨p, 0, none⟩ (.slice Al labs.length ql)).drewN nd).drew = V ∧ Aside0 (∃ v2, RS w v2 w4 V g p A c l ae #[.slice Al labs.length ql, .string (⟨#[]⟩ : ByteArray), .slice none 0 0]) := ⟨_, rfl, ⟨_, RS6.out.drew⟩⟩
 rw [hw_]
 clear hw_
 obtain ⟨w26, hd⟩ := RSd.out
 have RSd := Aside0.mk hd
 clear hd
 have e0 := RSd.out.rd.cell0
 have e1 := RSd.out.rd.cell1
 obtain ⟨ad, hA, x0, x1, x2⟩ := RSd.out.rd.tok2 ae t HTT.out
 subst hA
 simp only [List.take_succ_cons, List.take_zero, List.drop_succ_cons, List.drop_zero]
 repeat still_step
 refine wpStill_nil ?_
 go_wp2_with (first | (go_at_call 28; (with_reducible refine (line_plain.calls t.f0 t.f1 t.f2 false _ HP.out).mono ?_); rintro e w7 ⟨rfl, hb⟩; have RS7 := Aside0.mk (RSd.out.below hb); clear hb; have b0 := bc0 RS7.out.box; have b1 := bc1 RS7.out.box; have b2 := bc2 RS7.out.box; have bf0 := blk_frozen RS7.out.box 0; have bf1 := blk_frozen RS7.out.box 1; have bf2 := blk_frozen RS7.out.box 2))
 refine bodyPost_ret (results_ct rfl _ _ p 25 #[.slice none 0 0, .string (⟨#[]⟩ : ByteArray), .slice none 0 0] (0, 0) _ rfl ((((RS7.out.setp (cs' := #[.slice none 0 0, .string (⟨#[]⟩ : ByteArray), .slice none 0 0]) 0 (.slice none 0 0) rfl).setp (cs' := #[.slice none 0 0, .string (⟨#[]⟩ : ByteArray), .slice none 0 0]) 1 (.string (⟨#[]⟩ : ByteArray)) rfl).setp (cs' := #[.slice none 0 0, .string (⟨#[]⟩ : ByteArray), .slice none 0 0]) 2 (.slice none 0 0) rfl).box) Tryz.underlying25 rfl (by kernel_rfl)) rfl ?_
 exact ⟨_, _, rfl, Kd.R_nil _ _ _ _ _, Kd.R_nil _ _ _ _ _, (((RS7.out.setp (cs' := #[.slice none 0 0, .string (⟨#[]⟩ : ByteArray), .slice none 0 0]) 0 (.slice none 0 0) rfl).setp (cs' := #[.slice none 0 0, .string (⟨#[]⟩ : ByteArray), .slice none 0 0]) 1 (.string (⟨#[]⟩ : ByteArray)) rfl).setp (cs' := #[.slice none 0 0, .string (⟨#[]⟩ : ByteArray), .slice none 0 0]) 2 (.slice none 0 0) rfl).all⟩

set_option maxHeartbeats 8000000 in
set_option maxRecDepth 100000 in
theorem read_ok (s : ByteArray) (l : List S61) (er : Int) (w : World) (hE : LexW.LexE w) (hT : Lib.TabIs Tryz.prog w "internal/strconv.uint64pow10" .u64 Lib.pow10Tab) (hD : LexW.LexD w) (hM : ExW.ModsAt w) (hG : LiW.RegsAt w) (hf : lex_Tokens.f s = some (l, er)) (h0 : er = 0) (hok : okB l) (hl : l.length ≤ 1000000) (hw : ∀ t ∈ l, t.f0 = 1 → 0 < t.f1.size) (labs : List ByteArray) (ae : Nat) (hlb : labelsB l (l.length + 1) 0 [] = (labs, ae)) (t : S61) (ht : l[ae]? = some t) (hp : line_plain.f t.f0 t.f1 t.f2 = some true) (out : List XA) (har : argsB l (l.length + 1) (ae + 1) [] = .inl out) :
  Calls Tryz.prog 18 #[.string s] w fun e w' => ∃ v0 v2, e = .returned (.tuple #[.agg #[v0, .string t.f1, v2], .int .i64 0]) ∧ Kd.R Kd.string 9 w' w.heap.size (fun _ => True) v0 labs ∧ Kd.R k40 40 w' w.heap.size (fun _ => True) v2 out ∧ Below w.heap.size w w' := by
 have HE := Aside0.mk hE
 have HT := Aside0.mk hT
 have HD := Aside0.mk hD
 have HM := Aside0.mk hM
 have HG := Aside0.mk hG
 have HF := Aside0.mk hf
 clear hE hT hD hM hG hf
 subst h0
 have r1 : ((0 : Int) != 0) = false := rfl
 have HOK := Aside0.mk hok
 have HL := Aside0.mk hl
 have HW := Aside0.mk hw
 have HLB := Aside0.mk hlb
 clear hok hl hw hlb
 have HEE : Aside0 (decide (l.length ≤ ae) = false) := ⟨decide_eq_false qbf0⟩
 have hlt := (List.getElem?_eq_some_iff.1 ht).1
 have p0 := eq_true (show (0 : Int) ≤ (ae : Int) by omega)
 have q0 := eq_true (show (ae : Int) < (l.length : Int) by omega)
 have HLT := Aside0.mk hlt
 have HTT := Aside0.mk ht
 clear ht hlt
 have HP := Aside0.mk hp
 obtain ⟨a1, e1⟩ : ∃ x, x = ae + 1 := ⟨_, rfl⟩
 have hb1 : wrap64 ((ae : Int) + 1) = (a1 : Int) := by have := HL.out; have := HLT.out; unfold wrap64; omega
 rw [← e1] at har
 have HAR := Aside0.mk har
 have E1 := Aside0.mk e1
 clear hp har e1
 go_enter Tryz.func18, Tryz.ntmps18
 go_wp2_with (first | ((with_reducible refine gate_dst (N := 2) rfl ?_); refine box_event ?hg (N := 2) ?hd (cs := #[.slice none 0 0, .string (⟨#[]⟩ : ByteArray), .slice none 0 0]) (t := 25) ?hr ?_; (case hd => rfl); (case hg => rfl); (case hr => exact qbf1); intro p hg w1 hbox hb; have HB1 := Aside0.mk hb; have BP1 := Aside0.mk hbox; have GP : Aside0 (w.heap.size ≤ p) := ⟨by rw [hg]; exact Nat.le_refl _⟩; clear hb hbox hg) | (go_at_call 25; (with_reducible refine (lex_Tokens.calls s l 0 _ (HE.out.below HB1.out) HF.out).mono ?_); rintro e w2 ⟨v0, rfl, hr, hb⟩; have TK := Aside0.mk (tok_row hr BP1.out GP.out); have HB2 := Aside0.mk (below_step HB1.out hb); have BP2 := Aside0.mk (blk_below BP1.out hb); obtain ⟨A, c, hv, hcap, hC⟩ := Kd.R_reads hr; subst hv; have CAP := Aside0.mk hcap; have ROW := Aside0.mk hC; clear hr hb hcap hC; have c0 := bc0 BP2.out; have cf0 := blk_frozen BP2.out 0; have c1 := bc1 BP2.out; have cf1 := blk_frozen BP2.out 1; have c2 := bc2 BP2.out; have cf2 := blk_frozen BP2.out 2;  skip) | ((with_reducible refine gate_dst (N := 15) rfl ?_); refine box_event ?hg (N := 15) ?hd (cs := #[.slice A l.length c, .int .i64 0]) (t := 57) ?hr ?_; (case hd => rfl); (case hg => rfl); (case hr => exact qbf1); intro g hg w3 hbox hb; have RS3 : Aside0 (RS w w2 w3 w3 g p A c l 0 #[.slice none 0 0, .string (⟨#[]⟩ : ByteArray), .slice none 0 0]) := ⟨⟨⟨hbox, by rw [hg]; exact Nat.le_refl _, hb, ROW.out, CAP.out⟩, blk_below BP2.out hb, GP.out, blk_lt BP2.out, HB2.out, by rw [hg]; exact (Nat.ne_of_lt (blk_lt BP2.out)).symm, TK.out, FR2.same rfl⟩⟩; clear hb hbox hg) | (go_at_call 26; have hT2 := Lib.tabBelow_of_tabIs HT.out _ HB2.out; (with_reducible refine (labels_walk w2 _ g A c l HL.out HW.out hT2 RS3.out.rd labs ae HLB.out).mono ?_); rintro e w4 ⟨vl, rfl, hv, hf, hr⟩; obtain ⟨Al, ql, hvl⟩ := Kd.R_slice hv; subst hvl; have HV4 := Aside0.mk (row2 hv RS3.out.plt RS3.out.size); have RS4 := Aside0.mk (RS3.out.step hf hr); have b0 := bc0 RS4.out.box; have bf0 := blk_frozen RS4.out.box 0; have b1 := bc1 RS4.out.box; have bf1 := blk_frozen RS4.out.box 1; have b2 := bc2 RS4.out.box; have bf2 := blk_frozen RS4.out.box 2;  clear hv hf hr hT2) | (go_at_call 27; (with_reducible refine (end_walk _ _ g A c l ae (RS4.out.setp (cs' := #[.slice Al labs.length ql, .string (⟨#[]⟩ : ByteArray), .slice none 0 0]) 0 (.slice Al labs.length ql) rfl).rd false HEE.out).mono ?_); rintro e w6 ⟨rfl, ⟨nd, rfl⟩⟩))
 have RS6 := Aside0.mk ((RS4.out.setp (cs' := #[.slice Al labs.length ql, .string (⟨#[]⟩ : ByteArray), .slice none 0 0]) 0 (.slice Al labs.length ql) rfl).drewN nd)
 refine wp_region_still_tail 10 (by kernel_rfl) (by kernel_rfl) ?_
 change wpStill _ _ (World.drew _) (fun a' => wpList _ _ _ _ a' (World.drew _)) _ _
 obtain ⟨w6, hw_, RSd⟩ : ∃ V, ((w4.setCell ⟨p, 0, none⟩ (.slice Al labs.length ql)).drewN nd).drew = V ∧ Aside0 (∃ v2, RS w v2 w4 V g p A c l ae #[.slice Al labs.length ql, .string (⟨#[]⟩ : ByteArray), .slice none 0 0]) := ⟨_, rfl, ⟨_, RS6.out.drew⟩⟩
 rw [hw_]
 clear hw_
 obtain ⟨w26, hd⟩ := RSd.out
 have RSd := Aside0.mk hd
 clear hd
 have e0 := RSd.out.rd.cell0
 have e1 := RSd.out.rd.cell1
 obtain ⟨ad, hA, x0, x1, x2⟩ := RSd.out.rd.tok2 ae t HTT.out
 subst hA
 simp only [List.take_succ_cons, List.take_zero, List.drop_succ_cons, List.drop_zero]
 repeat still_step
 refine wpStill_nil ?_
 go_wp2_with (first | (go_at_call 28; (with_reducible refine (line_plain.calls t.f0 t.f1 t.f2 true _ HP.out).mono ?_); rintro e w7 ⟨rfl, hb⟩; have RS7 := Aside0.mk (RSd.out.below hb); clear hb; have b0 := bc0 RS7.out.box; have b1 := bc1 RS7.out.box; have b2 := bc2 RS7.out.box; have bf0 := blk_frozen RS7.out.box 0; have bf1 := blk_frozen RS7.out.box 1; have bf2 := blk_frozen RS7.out.box 2))
 refine wp_region_still_tail 12 (by kernel_rfl) (by kernel_rfl) ?_
 change wpStill _ _ (World.drew _) (fun a' => wpList _ _ _ _ a' (World.drew _)) _ _
 obtain ⟨w7d, hw_, RSe⟩ : ∃ V, w7.drew = V ∧ Aside0 (∃ v2, RS w v2 w4 V g p (some ad) c l ae #[.slice Al labs.length ql, .string (⟨#[]⟩ : ByteArray), .slice none 0 0]) := ⟨_, rfl, ⟨_, RS7.out.drew⟩⟩
 rw [hw_]
 clear hw_
 obtain ⟨w27, hd⟩ := RSe.out
 have RSe := Aside0.mk hd
 clear hd
 have e0 := RSe.out.rd.cell0
 have e1 := RSe.out.rd.cell1
 obtain ⟨ad8, hA8, x0, x1, x2⟩ := RSe.out.rd.tok2 ae t HTT.out
 injection hA8 with hA8
 subst hA8
 have b0 := bc0 RSe.out.box
 have b1 := bc1 RSe.out.box
 have b2 := bc2 RSe.out.box
 have bf0 := blk_frozen RSe.out.box 0
 have bf1 := blk_frozen RSe.out.box 1
 have bf2 := blk_frozen RSe.out.box 2
 simp only [List.take_succ_cons, List.take_zero, List.drop_succ_cons, List.drop_zero]
 repeat still_step
 refine wpStill_nil ?_
 go_wp2_with (first | ((with_reducible refine gate_store (t := 9) (p := 45) (v := .tmp 44) rfl ?_); refine store_event (t := 9) (p := 45) (v := .tmp 44) (w1 := w7d.setCell ⟨p, 1, none⟩ (.string t.f1)) ?hg ?ho ?hn ?hr ?_; (case ho => rfl); (case hg => rfl); (case hn => rfl); (case hr => exact qbf1); intro w8 hw8; obtain ⟨w28, RS8⟩ : ∃ v2, Aside0 (RS w v2 w4 w8 g p (some ad) c l ae #[.slice Al labs.length ql, .string t.f1, .slice none 0 0]) := ⟨_, ⟨by rw [hw8]; exact RSe.out.setp (cs' := #[.slice Al labs.length ql, .string t.f1, .slice none 0 0]) 1 (.string t.f1) rfl⟩⟩; clear hw8 e0 e1 x0 x1 x2 b0 b1 b2 bf0 bf1 bf2; have y1 := RS8.out.rd.cell1; have yf := blk_frozen RS8.out.rd.blk 1) | (go_at_call 29; have hB8 := RS8.out.pre; have hT8 := Lib.tabBelow_of_tabIs HT.out _ hB8; (with_reducible refine (args_walk w28 _ g (some ad) c l a1 HL.out (by have := HLT.out; have := E1.out; omega) HOK.out hT8 (HD.out.below hB8) (HM.out.below hB8) (HG.out.below hB8) (RS8.out.rd.seti a1) (.inl out) HAR.out).mono ?_); rintro e w9 ⟨va, rfl, hv, hf, hb9⟩; obtain ⟨Aa, qa, hva⟩ := Kd.R_slice hv; subst hva; have HV9 := Aside0.mk (row2 hv (RS8.out.seti a1).plt (RS8.out.seti a1).size); have F9 := Aside0.mk ((RS8.out.seti a1).fr.trans (FR2.of hf)); have NEp := Aside0.mk RS8.out.ne; have GPp := Aside0.mk RS8.out.gp; have BP9 := Aside0.mk (hf.blk (blk_far RS8.out.box RS8.out.ne.symm _) RS8.out.ne.symm); have HB9 := Aside0.mk (below_step hB8 hb9); have b0 := bc0 BP9.out; have bf0 := blk_frozen BP9.out 0; have b1 := bc1 BP9.out; have bf1 := blk_frozen BP9.out 1; have b2 := bc2 BP9.out; have bf2 := blk_frozen BP9.out 2;  clear hv hf hb9 hT8 hB8))
 refine bodyPost_ret (results_ct rfl _ _ p 25 #[.slice Al labs.length ql, .string t.f1, .slice Aa out.length qa] (0, 0) _ rfl ((blk_put (cs' := #[.slice Al labs.length ql, .string t.f1, .slice Aa out.length qa]) BP9.out 2 _ rfl)) Tryz.underlying25 rfl (by kernel_rfl)) rfl ?_
 exact ⟨_, _, rfl, Kd.R_mono (R_fg2 HV4.out (F9.out.setp _ _)) (fun _ _ => trivial), Kd.R_mono (R_fg2 HV9.out ((FR2.same rfl : FR2 w9 w9 g p).setp _ _)) (fun _ _ => trivial), below_set HB9.out GPp.out⟩

set_option maxHeartbeats 8000000 in
set_option maxRecDepth 100000 in
theorem read_aerr (s : ByteArray) (l : List S61) (er : Int) (w : World) (hE : LexW.LexE w) (hT : Lib.TabIs Tryz.prog w "internal/strconv.uint64pow10" .u64 Lib.pow10Tab) (hD : LexW.LexD w) (hM : ExW.ModsAt w) (hG : LiW.RegsAt w) (hf : lex_Tokens.f s = some (l, er)) (h0 : er = 0) (hok : okB l) (hl : l.length ≤ 1000000) (hw : ∀ t ∈ l, t.f0 = 1 → 0 < t.f1.size) (labs : List ByteArray) (ae : Nat) (hlb : labelsB l (l.length + 1) 0 [] = (labs, ae)) (t : S61) (ht : l[ae]? = some t) (hp : line_plain.f t.f0 t.f1 t.f2 = some true) (ea : Nat) (hea : ((ea : Int) != 0) = true) (har : argsB l (l.length + 1) (ae + 1) [] = .inr ea) :
  Calls Tryz.prog 18 #[.string s] w fun e w' => ∃ v0 v2, e = .returned (.tuple #[.agg #[v0, .string (⟨#[]⟩ : ByteArray), v2], .int .i64 (ea : Int)]) ∧ Kd.R Kd.string 9 w' w.heap.size (fun _ => True) v0 [] ∧ Kd.R k40 40 w' w.heap.size (fun _ => True) v2 [] ∧ Below w.heap.size w w' := by
 have HE := Aside0.mk hE
 have HT := Aside0.mk hT
 have HD := Aside0.mk hD
 have HM := Aside0.mk hM
 have HG := Aside0.mk hG
 have HF := Aside0.mk hf
 clear hE hT hD hM hG hf
 subst h0
 have r1 : ((0 : Int) != 0) = false := rfl
 have HOK := Aside0.mk hok
 have HL := Aside0.mk hl
 have HW := Aside0.mk hw
 have HLB := Aside0.mk hlb
 clear hok hl hw hlb
 have HEE : Aside0 (decide (l.length ≤ ae) = false) := ⟨decide_eq_false qbf0⟩
 have hlt := (List.getElem?_eq_some_iff.1 ht).1
 have p0 := eq_true (show (0 : Int) ≤ (ae : Int) by omega)
 have q0 := eq_true (show (ae : Int) < (l.length : Int) by omega)
 have HLT := Aside0.mk hlt
 have HTT := Aside0.mk ht
 clear ht hlt
 have HP := Aside0.mk hp
 obtain ⟨a1, e1⟩ : ∃ x, x = ae + 1 := ⟨_, rfl⟩
 have hb1 : wrap64 ((ae : Int) + 1) = (a1 : Int) := by have := HL.out; have := HLT.out; unfold wrap64; omega
 rw [← e1] at har
 have HAR := Aside0.mk har
 have E1 := Aside0.mk e1
 clear hp har e1
 go_enter Tryz.func18, Tryz.ntmps18
 go_wp2_with (first | ((with_reducible refine gate_dst (N := 2) rfl ?_); refine box_event ?hg (N := 2) ?hd (cs := #[.slice none 0 0, .string (⟨#[]⟩ : ByteArray), .slice none 0 0]) (t := 25) ?hr ?_; (case hd => rfl); (case hg => rfl); (case hr => exact qbf1); intro p hg w1 hbox hb; have HB1 := Aside0.mk hb; have BP1 := Aside0.mk hbox; have GP : Aside0 (w.heap.size ≤ p) := ⟨by rw [hg]; exact Nat.le_refl _⟩; clear hb hbox hg) | (go_at_call 25; (with_reducible refine (lex_Tokens.calls s l 0 _ (HE.out.below HB1.out) HF.out).mono ?_); rintro e w2 ⟨v0, rfl, hr, hb⟩; have TK := Aside0.mk (tok_row hr BP1.out GP.out); have HB2 := Aside0.mk (below_step HB1.out hb); have BP2 := Aside0.mk (blk_below BP1.out hb); obtain ⟨A, c, hv, hcap, hC⟩ := Kd.R_reads hr; subst hv; have CAP := Aside0.mk hcap; have ROW := Aside0.mk hC; clear hr hb hcap hC; have c0 := bc0 BP2.out; have cf0 := blk_frozen BP2.out 0; have c1 := bc1 BP2.out; have cf1 := blk_frozen BP2.out 1; have c2 := bc2 BP2.out; have cf2 := blk_frozen BP2.out 2;  skip) | ((with_reducible refine gate_dst (N := 15) rfl ?_); refine box_event ?hg (N := 15) ?hd (cs := #[.slice A l.length c, .int .i64 0]) (t := 57) ?hr ?_; (case hd => rfl); (case hg => rfl); (case hr => exact qbf1); intro g hg w3 hbox hb; have RS3 : Aside0 (RS w w2 w3 w3 g p A c l 0 #[.slice none 0 0, .string (⟨#[]⟩ : ByteArray), .slice none 0 0]) := ⟨⟨⟨hbox, by rw [hg]; exact Nat.le_refl _, hb, ROW.out, CAP.out⟩, blk_below BP2.out hb, GP.out, blk_lt BP2.out, HB2.out, by rw [hg]; exact (Nat.ne_of_lt (blk_lt BP2.out)).symm, TK.out, FR2.same rfl⟩⟩; clear hb hbox hg) | (go_at_call 26; have hT2 := Lib.tabBelow_of_tabIs HT.out _ HB2.out; (with_reducible refine (labels_walk w2 _ g A c l HL.out HW.out hT2 RS3.out.rd labs ae HLB.out).mono ?_); rintro e w4 ⟨vl, rfl, hv, hf, hr⟩; obtain ⟨Al, ql, hvl⟩ := Kd.R_slice hv; subst hvl; have HV4 := Aside0.mk (row2 hv RS3.out.plt RS3.out.size); have RS4 := Aside0.mk (RS3.out.step hf hr); have b0 := bc0 RS4.out.box; have bf0 := blk_frozen RS4.out.box 0; have b1 := bc1 RS4.out.box; have bf1 := blk_frozen RS4.out.box 1; have b2 := bc2 RS4.out.box; have bf2 := blk_frozen RS4.out.box 2;  clear hv hf hr hT2) | (go_at_call 27; (with_reducible refine (end_walk _ _ g A c l ae (RS4.out.setp (cs' := #[.slice Al labs.length ql, .string (⟨#[]⟩ : ByteArray), .slice none 0 0]) 0 (.slice Al labs.length ql) rfl).rd false HEE.out).mono ?_); rintro e w6 ⟨rfl, ⟨nd, rfl⟩⟩))
 have RS6 := Aside0.mk ((RS4.out.setp (cs' := #[.slice Al labs.length ql, .string (⟨#[]⟩ : ByteArray), .slice none 0 0]) 0 (.slice Al labs.length ql) rfl).drewN nd)
 refine wp_region_still_tail 10 (by kernel_rfl) (by kernel_rfl) ?_
 change wpStill _ _ (World.drew _) (fun a' => wpList _ _ _ _ a' (World.drew _)) _ _
 obtain ⟨w6, hw_, RSd⟩ : ∃ V, ((w4.setCell ⟨p, 0, none⟩ (.slice Al labs.length ql)).drewN nd).drew = V ∧ Aside0 (∃ v2, RS w v2 w4 V g p A c l ae #[.slice Al labs.length ql, .string (⟨#[]⟩ : ByteArray), .slice none 0 0]) := ⟨_, rfl, ⟨_, RS6.out.drew⟩⟩
 rw [hw_]
 clear hw_
 obtain ⟨w26, hd⟩ := RSd.out
 have RSd := Aside0.mk hd
 clear hd
 have e0 := RSd.out.rd.cell0
 have e1 := RSd.out.rd.cell1
 obtain ⟨ad, hA, x0, x1, x2⟩ := RSd.out.rd.tok2 ae t HTT.out
 subst hA
 simp only [List.take_succ_cons, List.take_zero, List.drop_succ_cons, List.drop_zero]
 repeat still_step
 refine wpStill_nil ?_
 go_wp2_with (first | (go_at_call 28; (with_reducible refine (line_plain.calls t.f0 t.f1 t.f2 true _ HP.out).mono ?_); rintro e w7 ⟨rfl, hb⟩; have RS7 := Aside0.mk (RSd.out.below hb); clear hb; have b0 := bc0 RS7.out.box; have b1 := bc1 RS7.out.box; have b2 := bc2 RS7.out.box; have bf0 := blk_frozen RS7.out.box 0; have bf1 := blk_frozen RS7.out.box 1; have bf2 := blk_frozen RS7.out.box 2))
 refine wp_region_still_tail 12 (by kernel_rfl) (by kernel_rfl) ?_
 change wpStill _ _ (World.drew _) (fun a' => wpList _ _ _ _ a' (World.drew _)) _ _
 obtain ⟨w7d, hw_, RSe⟩ : ∃ V, w7.drew = V ∧ Aside0 (∃ v2, RS w v2 w4 V g p (some ad) c l ae #[.slice Al labs.length ql, .string (⟨#[]⟩ : ByteArray), .slice none 0 0]) := ⟨_, rfl, ⟨_, RS7.out.drew⟩⟩
 rw [hw_]
 clear hw_
 obtain ⟨w27, hd⟩ := RSe.out
 have RSe := Aside0.mk hd
 clear hd
 have e0 := RSe.out.rd.cell0
 have e1 := RSe.out.rd.cell1
 obtain ⟨ad8, hA8, x0, x1, x2⟩ := RSe.out.rd.tok2 ae t HTT.out
 injection hA8 with hA8
 subst hA8
 have b0 := bc0 RSe.out.box
 have b1 := bc1 RSe.out.box
 have b2 := bc2 RSe.out.box
 have bf0 := blk_frozen RSe.out.box 0
 have bf1 := blk_frozen RSe.out.box 1
 have bf2 := blk_frozen RSe.out.box 2
 simp only [List.take_succ_cons, List.take_zero, List.drop_succ_cons, List.drop_zero]
 repeat still_step
 refine wpStill_nil ?_
 go_wp2_with (first | ((with_reducible refine gate_store (t := 9) (p := 45) (v := .tmp 44) rfl ?_); refine store_event (t := 9) (p := 45) (v := .tmp 44) (w1 := w7d.setCell ⟨p, 1, none⟩ (.string t.f1)) ?hg ?ho ?hn ?hr ?_; (case ho => rfl); (case hg => rfl); (case hn => rfl); (case hr => exact qbf1); intro w8 hw8; obtain ⟨w28, RS8⟩ : ∃ v2, Aside0 (RS w v2 w4 w8 g p (some ad) c l ae #[.slice Al labs.length ql, .string t.f1, .slice none 0 0]) := ⟨_, ⟨by rw [hw8]; exact RSe.out.setp (cs' := #[.slice Al labs.length ql, .string t.f1, .slice none 0 0]) 1 (.string t.f1) rfl⟩⟩; clear hw8 e0 e1 x0 x1 x2 b0 b1 b2 bf0 bf1 bf2; have y1 := RS8.out.rd.cell1; have yf := blk_frozen RS8.out.rd.blk 1) | (go_at_call 29; have hB8 := RS8.out.pre; have hT8 := Lib.tabBelow_of_tabIs HT.out _ hB8; (with_reducible refine (args_walk w28 _ g (some ad) c l a1 HL.out (by have := HLT.out; have := E1.out; omega) HOK.out hT8 (HD.out.below hB8) (HM.out.below hB8) (HG.out.below hB8) (RS8.out.rd.seti a1) (.inr ea) HAR.out).mono ?_); rintro e w9 ⟨va, rfl, hv, hf, hb9⟩; obtain ⟨Aa, qa, hva⟩ := Kd.R_slice hv; subst hva; have HV9 := Aside0.mk (row2 hv (RS8.out.seti a1).plt (RS8.out.seti a1).size); have F9 := Aside0.mk ((RS8.out.seti a1).fr.trans (FR2.of hf)); have NEp := Aside0.mk RS8.out.ne; have GPp := Aside0.mk RS8.out.gp; have BP9 := Aside0.mk (hf.blk (blk_far RS8.out.box RS8.out.ne.symm _) RS8.out.ne.symm); have HB9 := Aside0.mk (below_step hB8 hb9); have b0 := bc0 BP9.out; have bf0 := blk_frozen BP9.out 0; have b1 := bc1 BP9.out; have bf1 := blk_frozen BP9.out 1; have b2 := bc2 BP9.out; have bf2 := blk_frozen BP9.out 2;  clear hv hf hb9 hT8 hB8))
 refine bodyPost_ret (results_ct rfl _ _ p 25 #[.slice none 0 0, .string (⟨#[]⟩ : ByteArray), .slice none 0 0] (0, 0) _ rfl (put3q (blk_put (cs' := #[.slice Al labs.length ql, .string t.f1, .slice Aa 0 qa]) BP9.out 2 _ rfl)) Tryz.underlying25 rfl (by kernel_rfl)) rfl ?_
 exact ⟨_, _, rfl, Kd.R_nil _ _ _ _ _, Kd.R_nil _ _ _ _ _, below_set (below_set (below_set (below_set HB9.out GPp.out) GPp.out) GPp.out) GPp.out⟩
def readB (l : List S61) : (List ByteArray × ByteArray × List XA) × Nat := match l[(labelsB l (l.length + 1) 0 []).2]? with
 | none => (((labelsB l (l.length + 1) 0 []).1, (⟨#[]⟩ : ByteArray), []), 0)
 | some t => if plainB t = true then (match argsB l (l.length + 1) ((labelsB l (l.length + 1) 0 []).2 + 1) [] with
  | .inl out => (((labelsB l (l.length + 1) 0 []).1, t.f1, out), 0)
  | .inr er => (([], (⟨#[]⟩ : ByteArray), []), er)) else (([], (⟨#[]⟩ : ByteArray), []), 170)
def readF (s : ByteArray) : (List ByteArray × ByteArray × List XA) × Nat :=
 if (Lex.tokensL s.data.toList).2 = 0 then readB ((Lex.tokensL s.data.toList).1.map toS) else (([], (⟨#[]⟩ : ByteArray), []), (Lex.tokensL s.data.toList).2)
theorem may_len {t : Lex.Tok} (h : Lex.mayL t = true) : t.t.length ≤ 256 ∧ (t.k = 1 → t.t ≠ []) := by
 unfold Lex.mayL Lex.textL at h
 split at h
 ·
  rename_i hk
  simp only [Bool.and_eq_true, Bool.or_eq_true] at h
  rcases h.2 with h | h
  ·
   cases hl : t.t with
   | nil => rw [hl] at h; cases h
   | cons c u =>
    rw [hl] at h
    simp only [Lex.nameL, Bool.and_eq_true, decide_eq_true_eq] at h
    exact ⟨by simp only [List.length_cons]; omega, fun _ e => by cases e⟩
  ·
   simp only [Lex.localL, Bool.and_eq_true, decide_eq_true_eq] at h
   refine ⟨by omega, fun _ e => ?_⟩
   rw [e] at h
   simp at h
 split at h
 ·
  rename_i hk _
  simp only [Bool.and_eq_true, decide_eq_true_eq] at h
  exact ⟨by omega, fun e => absurd e hk⟩
 split at h
 ·
  rename_i hk _ _
  cases hs : Lex.shownL t.t [34] with
  | none => rw [hs] at h; cases h
  | some z =>
   rw [hs] at h
   simp only [Bool.and_eq_true, decide_eq_true_eq] at h
   exact ⟨h.2, fun e => absurd e hk⟩
 split at h
 ·
  rename_i hk _ _ _
  have : t.t = [] := by
   split at h
   ·
    simpa using h
   ·
    simpa using h
  exact ⟨by rw [this]; simp, fun e => absurd e hk⟩
 ·
  cases h
theorem toks_fine {s : List UInt8} {x : List Lex.Tok} (h : Lex.tokensL s = (x, 0)) : okB (x.map toS) ∧ (x.map toS).length ≤ 1000000 ∧ ∀ t ∈ x.map toS, t.f0 = 1 → 0 < t.f1.size := by
 obtain ⟨hm, hl⟩ := Lex.tokens_may h
 have sz : ∀ t : Lex.Tok, (⟨t.t.toArray⟩ : ByteArray).size = t.t.length := fun t => by show t.t.toArray.size = _; simp
 refine ⟨⟨by rw [List.length_map]; omega, fun x hx => ?_⟩, by rw [List.length_map]; omega, fun x hx hk => ?_⟩
 ·
  obtain ⟨t, ht, rfl⟩ := List.mem_map.1 hx
  have := (may_len (hm t ht).1).1
  have hn := (hm t ht).2
  refine ⟨Int.natCast_nonneg _, ?_, hn.1, hn.2⟩
  show (⟨t.t.toArray⟩ : ByteArray).size ≤ 1000000
  rw [sz]
  omega
 ·
  obtain ⟨t, ht, rfl⟩ := List.mem_map.1 hx
  have hk' : t.k = 1 := by
   have : ((t.k : Nat) : Int) = 1 := hk
   omega
  have := (may_len (hm t ht).1).2 hk'
  show 0 < (⟨t.t.toArray⟩ : ByteArray).size
  rw [sz]
  exact List.length_pos_iff.2 this
theorem args_er (l : List S61) : ∀ (d a : Nat) (out : List XA) {er : Nat}, argsB l d a out = .inr er → er ≠ 0
 | 0, a, out, er, h => by rw [argsB] at h; cases h
 | d + 1, a, out, er, h => by
  rw [argsB] at h
  split at h
  ·
   cases h
  split at h
  ·
   cases h; omega
  split at h
  ·
   rename_i e he
   cases h
   exact arg_er he
  ·
   split at h
   ·
    cases h; omega
   ·
    exact args_er l d _ _ h
theorem read_walk (s : ByteArray) (hs : s.size ≤ 1000000000) (w : World) (hT : Lib.TabIs Tryz.prog w "internal/strconv.uint64pow10" .u64 Lib.pow10Tab) (hD : LexW.LexD w) (hE : LexW.LexE w) (hM : ExW.ModsAt w) (hG : LiW.RegsAt w) :
  Calls Tryz.prog 18 #[.string s] w fun e w' => ∃ v0 v2, e = .returned (.tuple #[.agg #[v0, .string (readF s).1.2.1, v2], .int .i64 ((readF s).2 : Int)]) ∧ Kd.R Kd.string 9 w' w.heap.size (fun _ => True) v0 (readF s).1.1 ∧ Kd.R k40 40 w' w.heap.size (fun _ => True) v2 (readF s).1.2.2 ∧ Below w.heap.size w w' := by
 have hf : lex_Tokens.f s = some ((Lex.tokensL s.data.toList).1.map toS, (((Lex.tokensL s.data.toList).2 : Nat) : Int)) := by
  unfold lex_Tokens.f
  exact if_pos hs
 unfold readF
 by_cases h0 : (Lex.tokensL s.data.toList).2 = 0
 ·
  rw [if_pos h0]
  rw [h0] at hf
  obtain ⟨ok, hl, hw⟩ := toks_fine (Prod.ext rfl h0 : Lex.tokensL s.data.toList = ((Lex.tokensL s.data.toList).1, 0))
  generalize (Lex.tokensL s.data.toList).1.map toS = l at *
  unfold readB
  obtain ⟨labs, ae, hlb⟩ : ∃ labs ae, labelsB l (l.length + 1) 0 [] = (labs, ae) := ⟨_, _, rfl⟩
  rw [hlb]
  simp only
  cases ht : l[ae]? with
  | none =>
   refine read_end s l _ w hE hT hD hM hG hf rfl ok hl hw labs ae hlb ?_
   rcases Nat.lt_or_ge ae l.length with g | g
   ·
    rw [List.getElem?_eq_getElem g] at ht
    cases ht
   ·
    exact g
  | some t =>
   simp only
   have hp := plain_f t (hw t (List.mem_of_getElem? ht))
   cases hb : plainB t with
   | false =>
    rw [if_neg (by simp)]
    rw [hb] at hp
    exact read_bad s l _ w hE hT hD hM hG hf rfl ok hl hw labs ae hlb t ht hp
   | true =>
    rw [if_pos rfl]
    rw [hb] at hp
    cases ha : argsB l (l.length + 1) (ae + 1) [] with
    | inl out => exact read_ok s l _ w hE hT hD hM hG hf rfl ok hl hw labs ae hlb t ht hp out ha
    | inr er => exact read_aerr s l _ w hE hT hD hM hG hf rfl ok hl hw labs ae hlb t ht hp er (bne_iff_ne.2 (by have := args_er l _ _ _ ha; omega)) ha
 ·
  rw [if_neg h0]
  exact read_err s _ _ w hE hT hD hM hG hf (by omega)
end LD
def line_Read.f (a0 : ByteArray) : Option (List ByteArray × ByteArray × List S40 × Int) := if a0.size ≤ 1000000000 then some ((LD.readF a0).1.1, (LD.readF a0).1.2.1, (LD.readF a0).1.2.2, ((LD.readF a0).2 : Int)) else none
theorem line_Read.calls (a0 : ByteArray) (r1 : List ByteArray) (r2 : ByteArray) (r3 : List S40) (r4 : Int) (w : World) (hT : Lib.TabIs Tryz.prog w "internal/strconv.uint64pow10" .u64 Lib.pow10Tab) (hD : LexW.LexD w) (hE : LexW.LexE w) (hM : ExW.ModsAt w) (hG : LiW.RegsAt w) (h : line_Read.f a0 = some (r1, r2, r3, r4)) :
  Calls Tryz.prog 18 #[.string a0] w fun e w' => ∃ v0_ v2_ : Value, e = .returned (.tuple #[.agg #[v0_, .string r2, v2_], .int .i64 r4]) ∧ Kd.R Kd.string 9 w' w.heap.size (fun _ => True) v0_ r1 ∧ Kd.R k40 40 w' w.heap.size (fun _ => True) v2_ r3 ∧ Below w.heap.size w w' := by
 unfold line_Read.f at h
 by_cases c : a0.size ≤ 1000000000
 ·
  rw [if_pos c] at h
  simp only [Option.some.injEq, Prod.mk.injEq] at h
  obtain ⟨rfl, rfl, rfl, rfl⟩ := h
  exact LD.read_walk a0 c w hT hD hE hM hG
 ·
  rw [if_neg c] at h
  cases h
end

end Go.Proofs.YtbfndlfemhidaaaGreatDoor.P
