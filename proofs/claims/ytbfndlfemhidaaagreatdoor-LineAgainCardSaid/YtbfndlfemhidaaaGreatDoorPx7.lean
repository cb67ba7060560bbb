/- Texts of this seat in one (Px7), what nothing speaks of left out: by pack.py, a program of this session. -/
import Derived.Test.YtbfndlfemhidaaaGreatDoorPx0
import Derived.Test.YtbfndlfemhidaaaGreatDoorPx1
import Derived.Test.YtbfndlfemhidaaaGreatDoorPx3
import Derived.Test.YtbfndlfemhidaaaGreatDoorPx4
import Derived.Test.YtbfndlfemhidaaaGreatDoorPx5
import Derived.Test.YtbfndlfemhidaaaGreatDoorPx6
namespace Go.Proofs.YtbfndlfemhidaaaGreatDoor.P
open Go.RowKit Go.Proofs.YtbfndlfemhidaaaGreatDoor.LexP Go.Proofs.YtbfndlfemhidaaaGreatDoorW.PrintWords Go.Proofs.YtbfndlfemhidaaaGreatDoorW.PrintLast Go.Proofs.YtbfndlfemhidaaaGreatDoorW.PrintMore
theorem qaz7 {P : Prop} (h : P := by first | (go_simp; done) | (go_simp; rfl)) : P := h
theorem qaz6 {P : Prop} (h : P := by exact fun k hk => by have := blk_lt BP.out; omega) : P := h
theorem qaz5 {P : Prop} (h : P := by first | rfl | (simp; done) | (simp [*]; done)) : P := h
theorem qaz4 {P : Prop} (h : P := by first | (with_reducible assumption) | assumption) : P := h
theorem qaz3 {P : Prop} (h : P := by (try simp only [List.map_toArray, List.map_cons, List.map_nil]); first | done | rfl) : P := h
theorem qaz2 {P : Prop} (h : P := by (with_reducible repeat (first | refine blk_drewN ?_ _ | refine blk_drew ?_ | refine blk_alloc ?_ _)); exact BK537.out) : P := h
theorem qaz1 {P : Prop} (h : P := by repeat (first | (with_reducible first | exact HB.out | apply below_alloc | apply pw_below_drewN | apply below_drew1) | exact HB.out)) : P := h
theorem qaz0 {P : Prop} (h : P := by repeat (first | (with_reducible first | exact HB.out | apply below_alloc | apply pw_below_drewN | apply below_drew1 | refine below_set ?_ GE537.out) | exact HB.out)) : P := h
attribute [local go_sem] max2_int min2_int max_two min_two max_three min_three max_four min_four   -- for this text's walks alone
set_option linter.unusedVariables false
set_option linter.unusedSimpArgs false

attribute [local go_sem high] eqA40
mutual
def line_tokens.l0 : Nat → List (S61) → List ByteArray → Int → Int → List ByteArray → ByteArray → List (S40) → Option ((List (S61)) × Bool)
 | 0, _, _, _, _, _, _, _ => none
 | k + 1, x4, x14, x15, x16, x205000, x205001, x205002 => if x16 < x15 then (if 0 ≤ x16 then (if x16 < (x14.length : Int) then ((line_label.f (rdOf ByteArray.empty x14 x16)).bind fun bt206 => (if bt206.2.2.2 = true then ((line_mark.f (⟨#[58]⟩ : ByteArray)).bind fun bt211 => ((some (([(⟨bt206.1, bt206.2.1, bt206.2.2.1⟩ : S61), (⟨bt211.1, bt211.2.1, bt211.2.2⟩ : S61)] : List (S61)) : List (S61))).bind fun y214 => (if x4.length + y214.length < 4398046511104 then (line_tokens.l0 k (x4 ++ y214) x14 x15 (wrap64 (x16 + 1)) x205000 x205001 x205002) else (none)))) else (some (([] : List (S61)), false)))) else (none)) else (none)) else (if x205001.toList = ([] : List UInt8) then (line_tokens.j1 k x4 x205000 x205001 x205002) else ((line_word.f x205001).bind fun bt220 => (if x4.length < 4398046511104 then (line_tokens.j1 k (x4 ++ [(⟨bt220.1, bt220.2.1, bt220.2.2⟩ : S61)]) x205000 x205001 x205002) else (none))))
def line_tokens.j1 : Nat → List (S61) → List ByteArray → ByteArray → List (S40) → Option ((List (S61)) × Bool)
 | 0, _, _, _, _ => none
 | k + 1, x4, x205000, x205001, x205002 => if (x205002.length : Int) > 8 then (line_tokens.j2 k x4 true x205000 x205001 x205002) else (if x205001.toList = ([] : List UInt8) then (line_tokens.j2 k x4 (decide ((x205002.length : Int) > 0)) x205000 x205001 x205002) else ((line_name.f k x205001).bind fun t226 => (if t226 = true then (line_tokens.j2 k x4 false x205000 x205001 x205002) else (line_tokens.j2 k x4 true x205000 x205001 x205002))))
def line_tokens.j2 : Nat → List (S61) → Bool → List ByteArray → ByteArray → List (S40) → Option ((List (S61)) × Bool)
 | 0, _, _, _, _, _ => none
 | k + 1, x4, x67, x205000, x205001, x205002 => if x67 = true then (some (([] : List (S61)), false)) else (line_tokens.l1 k x4 x205002 (x205002.length : Int) 0)
def line_tokens.l1 : Nat → List (S61) → List (S40) → Int → Int → Option ((List (S61)) × Bool)
 | 0, _, _, _, _ => none
 | k + 1, x4, x69, x70, x71 => if x71 < x70 then (if 0 ≤ x71 then (if x71 < (x69.length : Int) then (if x71 > 0 then ((line_mark.f (⟨#[44]⟩ : ByteArray)).bind fun bt229 => (if x4.length < 4398046511104 then ((some (x4 ++ [(⟨bt229.1, bt229.2.1, bt229.2.2⟩ : S61)] : List (S61))).bind fun y232 => ((line_told.f k ((rd_T40 x69 x71).f0) ((rd_T40 x69 x71).f1) ((rd_T40 x69 x71).f2.f0) ((rd_T40 x69 x71).f2.f1) ((rd_T40 x69 x71).f2.f2) ((rd_T40 x69 x71).f2.f3) ((rd_T40 x69 x71).f3)).bind fun bt235 => (if bt235.2 = true then (if y232.length + bt235.1.length < 4398046511104 then (line_tokens.l1 k (y232 ++ bt235.1) x69 x70 (wrap64 (x71 + 1))) else (none)) else (some (([] : List (S61)), false))))) else (none))) else ((line_told.f k ((rd_T40 x69 x71).f0) ((rd_T40 x69 x71).f1) ((rd_T40 x69 x71).f2.f0) ((rd_T40 x69 x71).f2.f1) ((rd_T40 x69 x71).f2.f2) ((rd_T40 x69 x71).f2.f3) ((rd_T40 x69 x71).f3)).bind fun bt242 => (if bt242.2 = true then (if x4.length + bt242.1.length < 4398046511104 then (line_tokens.l1 k (x4 ++ bt242.1) x69 x70 (wrap64 (x71 + 1))) else (none)) else (some (([] : List (S61)), false))))) else (none)) else (none)) else (some (x4, true))
end
def line_tokens.f (k : Nat) (l0_0 : List ByteArray) (a0_1 : ByteArray) (l0_2 : List (S40)) : Option ((List (S61)) × Bool) := line_tokens.l0 k ([] : List (S61)) l0_0 (l0_0.length : Int) 0 l0_0 a0_1 l0_2
theorem toks_put3 {W : World} {q t : Nat} {v0 v1 v2 y0 y1 y2 : Value} (h : W.heap[q]? = some (.cells #[y0, y1, y2] t (0, 0))) : (((W.setCell ⟨q, 0, none⟩ (v0)).setCell ⟨q, 1, none⟩ (v1)).setCell ⟨q, 2, none⟩ (v2)).heap[q]? = some (.cells #[v0, v1, v2] t (0, 0)) :=
 blk_put (cs' := #[v0, v1, v2]) (blk_put (cs' := #[v0, v1, y2]) (blk_put (cs' := #[v0, y1, y2]) (h) 0 _ rfl) 1 _ rfl) 2 _ rfl
theorem toks_far3 {W : World} {q p base : Nat} {v v0 v1 v2 : Value} {l : List S61} (h : Kd.R k61 61 W base (fun k => k ≠ p) v l) (hn : ∀ k, v.ownBlock = some k → k ≠ q) : Kd.R k61 61 (((W.setCell ⟨q, 0, none⟩ (v0)).setCell ⟨q, 1, none⟩ (v1)).setCell ⟨q, 2, none⟩ (v2)) base (fun k => k ≠ p) v l := by
 have h2 : Kd.R k61 61 W base (fun k => k ≠ p ∧ k ≠ q) v l := Kd.R_reok rfl h (fun k hk => ⟨h.1 k hk, hn k hk⟩)
 exact Kd.R_mono (Kd.R_step h2 (fun k hk _ => by rw [Below.heap_setCell _ _ _ k hk.2, Below.heap_setCell _ _ _ k hk.2, Below.heap_setCell _ _ _ k hk.2])) (fun _ hk => hk.1)
theorem toks_put7 {W : World} {q t : Nat} {v0 v1 v2 v3 v4 v5 v6 y0 y1 y2 y3 y4 y5 y6 : Value} (h : W.heap[q]? = some (.cells #[y0, y1, y2, y3, y4, y5, y6] t (0, 0))) : (((((((W.setCell ⟨q, 0, none⟩ (v0)).setCell ⟨q, 1, none⟩ (v1)).setCell ⟨q, 2, none⟩ (v2)).setCell ⟨q, 3, none⟩ (v3)).setCell ⟨q, 4, none⟩ (v4)).setCell ⟨q, 5, none⟩ (v5)).setCell ⟨q, 6, none⟩ (v6)).heap[q]? = some (.cells #[v0, v1, v2, v3, v4, v5, v6] t (0, 0)) :=
 blk_put (cs' := #[v0, v1, v2, v3, v4, v5, v6]) (blk_put (cs' := #[v0, v1, v2, v3, v4, v5, y6]) (blk_put (cs' := #[v0, v1, v2, v3, v4, y5, y6]) (blk_put (cs' := #[v0, v1, v2, v3, y4, y5, y6]) (blk_put (cs' := #[v0, v1, v2, y3, y4, y5, y6]) (blk_put (cs' := #[v0, v1, y2, y3, y4, y5, y6]) (blk_put (cs' := #[v0, y1, y2, y3, y4, y5, y6]) (h) 0 _ rfl) 1 _ rfl) 2 _ rfl) 3 _ rfl) 4 _ rfl) 5 _ rfl) 6 _ rfl
theorem toks_far7 {W : World} {q p base : Nat} {v v0 v1 v2 v3 v4 v5 v6 : Value} {l : List S61} (h : Kd.R k61 61 W base (fun k => k ≠ p) v l) (hn : ∀ k, v.ownBlock = some k → k ≠ q) : Kd.R k61 61 (((((((W.setCell ⟨q, 0, none⟩ (v0)).setCell ⟨q, 1, none⟩ (v1)).setCell ⟨q, 2, none⟩ (v2)).setCell ⟨q, 3, none⟩ (v3)).setCell ⟨q, 4, none⟩ (v4)).setCell ⟨q, 5, none⟩ (v5)).setCell ⟨q, 6, none⟩ (v6)) base (fun k => k ≠ p) v l := by
 have h2 : Kd.R k61 61 W base (fun k => k ≠ p ∧ k ≠ q) v l := Kd.R_reok rfl h (fun k hk => ⟨h.1 k hk, hn k hk⟩)
 exact Kd.R_mono (Kd.R_step h2 (fun k hk _ => by rw [Below.heap_setCell _ _ _ k hk.2, Below.heap_setCell _ _ _ k hk.2, Below.heap_setCell _ _ _ k hk.2, Below.heap_setCell _ _ _ k hk.2, Below.heap_setCell _ _ _ k hk.2, Below.heap_setCell _ _ _ k hk.2, Below.heap_setCell _ _ _ k hk.2])) (fun _ hk => hk.1)
set_option maxHeartbeats 16000000 in
set_option maxRecDepth 100000 in
theorem line_tokens.calls (k : Nat) (A0_0 : Option Addr) (c0_0 : Nat) (l0_0 : List ByteArray) (a0_1 : ByteArray) (A0_2 : Option Addr) (c0_2 : Nat) (l0_2 : List (S40)) (r1 : List (S61)) (r2 : Bool) (w : World) (hr0_0 : Kd.C Kd.string w A0_0 l0_0.length l0_0) (hc0_0 : l0_0.length ≤ c0_0) (hr0_2 : Kd.C k40 w A0_2 l0_2.length l0_2) (hc0_2 : l0_2.length ≤ c0_2) (hT : Lib.TabIs Tryz.prog w "internal/strconv.uint64pow10" .u64 Lib.pow10Tab) (hD : LexW.LexD w) (hE : LexW.LexE w) (hM : ExW.ModsAt w) (hG : LiW.RegsAt w) (h : line_tokens.f k l0_0 a0_1 l0_2 = some (r1, r2)) :
  Calls Tryz.prog 19 #[.agg #[.slice A0_0 l0_0.length c0_0, .string a0_1, .slice A0_2 l0_2.length c0_2]] w fun e w' => ∃ v0_ : Value, e = .returned (.tuple #[v0_, .bool r2]) ∧ Kd.R k61 61 w' w.heap.size (fun _ => True) v0_ r1 ∧ Below w.heap.size w w' := by
 have hu1 := Tryz.underlying25
 have hu2 := Tryz.underlying61
 have hu3 := Tryz.underlying40
 have RL := Aside0.mk hr0_0
 have RA := Aside0.mk hr0_2
 have HT := Aside0.mk hT
 have HD := Aside0.mk hD
 have HE := Aside0.mk hE
 have HM := Aside0.mk hM
 have HG := Aside0.mk hG
 have HH := Aside0.mk (show line_tokens.l0 k ([] : List (S61)) l0_0 (l0_0.length : Int) 0 l0_0 a0_1 l0_2 = some (r1, r2) from h)
 clear hr0_0 hc0_0 hr0_2 hc0_2 hT hD hE hM hG h
 go_enter Tryz.func19, Tryz.ntmps19
 go_wp2_with (first | ((with_reducible refine gate_dst (N := 1) rfl ?_); refine box_event ?hg (N := 1) ?hd (cs := #[.slice A0_0 l0_0.length c0_0, .string a0_1, .slice A0_2 l0_2.length c0_2]) (t := 25) ?hr ?_; (case hd => rfl); (case hg => rfl); (case hr => exact qaz7); intro p hg w1 hbox hb; have BP := Aside0.mk hbox; have HB := Aside0.mk hb; have GP : Aside0 (w.heap.size ≤ p) := ⟨by rw [hg]; exact Nat.le_refl _⟩; have c0 := bc0 hbox; have cf0 := blk_frozen hbox 0; have c1 := bc1 hbox; have cf1 := blk_frozen hbox 1; have c2 := bc2 hbox; have cf2 := blk_frozen hbox 2;  clear hb hbox hg))
 go_loopg [4, 16] k (fun kq v4 v16 wx => ∃ (out : List (S61)) (i : Int), v16 = .int .i64 i ∧ Aside0 (line_tokens.l0 kq out l0_0 (l0_0.length : Int) i l0_0 a0_1 l0_2 = some (r1, r2)) ∧ Aside0 (kq ≤ k) ∧ Aside0 (Kd.R k61 61 wx w.heap.size (fun k => k ≠ p) v4 out) ∧ Aside0 (wx.heap[p]? = some (.cells #[.slice A0_0 l0_0.length c0_0, .string a0_1, .slice A0_2 l0_2.length c0_2] 25 (0, 0))) ∧ Aside0 (Below w.heap.size w wx))
 case atStart => exact ⟨[], 0, rfl, HH, ⟨Nat.le_refl _⟩, ⟨Kd.R_nil _ _ _ _ _⟩, BP, HB⟩
 case round =>
  clear HH BP HB c0 c1 c2 cf0 cf1 cf2
  obtain ⟨out, i, rfl, HA, HK, HO, BP, HB⟩ := hrel
  obtain ⟨A4, q4, hv4⟩ := Kd.R_slice HO.out
  subst hv4
  cases gk with
  | zero => exact absurd HA.out (by simp [line_tokens.l0])
  | succ k1 =>
   have h := HA.out
   clear HA
   simp only [line_tokens.l0] at h
   have c0 := bc0 BP.out
   have cf0 := blk_frozen BP.out 0
   have c1 := bc1 BP.out
   have cf1 := blk_frozen BP.out 1
   have c2 := bc2 BP.out
   have cf2 := blk_frozen BP.out 2
   by_cases c4 : i < (l0_0.length : Int)
   ·
    rw [if_pos c4] at h
    have c5 : 0 ≤ i := Decidable.byContradiction fun c => by rw [if_neg c] at h; cases h
    rw [if_pos c5, if_pos c4] at h
    obtain ⟨⟨t1, t2, t3, tb⟩, hlb, h⟩ := Option.bind_eq_some_iff.1 h
    obtain ⟨ad, e, hx⟩ := Kd.at_string RL.out i c5 c4
    cases e
    replace hx := (HB.out.cell (World.block_lt_of_cell? w _ hx)).trans hx
    have d4 : decide (i < (l0_0.length : Int)) = true := decide_eq_true c4
    have e4 := eq_true c4
    have e5 := eq_true c5
    generalize rdOf ByteArray.empty l0_0 i = s at *
    have HLB := Aside0.mk hlb
    clear hlb
    cases tb with
    | false =>
     rw [if_neg (by simp)] at h
     cases h
     go_wp2_with (first | (go_at_call 30; have hT1 := Lib.tabBelow_of_tabIs HT.out _ HB.out; (with_reducible refine (line_label.calls s t1 t2 t3 _ _ hT1 (HD.out.below HB.out) (HE.out.below HB.out) HLB.out).mono ?_); clear hT1; rintro e w2 ⟨rfl, hb⟩; have HB2 := Aside0.mk (below_step HB.out hb); have BP2 := Aside0.mk (blk_below BP.out hb); have HO2 := Aside0.mk (Kd.R_below HO.out hb); clear HB BP HO; have HB := HB2; have BP := BP2; have HO := HO2; clear HB2 BP2 HO2; clear hb) | ((with_reducible refine gate_dst (N := 7) rfl ?_); refine box_event ?hg (N := 7) ?hd (cs := #[.int .u8 0, .string (⟨#[]⟩ : ByteArray), .int .i64 0]) (t := 61) ?hr ?_; (case hd => rfl); (case hg => rfl); (case hr => exact qaz7); intro q hg w3 hbox hb; have HB2 := Aside0.mk (below_step HB.out hb); have BP2 := Aside0.mk (blk_below BP.out hb); have HO2 := Aside0.mk (Kd.R_below HO.out hb); have BQ := Aside0.mk hbox; have GQ : Aside0 (w.heap.size ≤ q) := ⟨by rw [hg]; exact below_size HB.out⟩; have NQ : Aside0 (p ≠ q) := ⟨by rw [hg]; exact Nat.ne_of_lt (blk_lt BP.out)⟩; have OQ : Aside0 (∀ k, (.slice A4 out.length q4 : Value).ownBlock = some k → k ≠ q) := ⟨fun k hk e => by have := Kd.R_lt HO.out k hk; omega⟩; clear HB BP HO; have HB := HB2; have BP := BP2; have HO := HO2; clear HB2 BP2 HO2; have z0 := bc0 hbox; have zf0 := blk_frozen hbox 0; have z1 := bc1 hbox; have zf1 := blk_frozen hbox 1; have z2 := bc2 hbox; have zf2 := blk_frozen hbox 2;  clear hb hbox hg) | ((with_reducible refine gate_store (t := 61) (p := 7) (v := .tmp 23) rfl ?_); refine store_event (t := 61) (p := 7) (v := .tmp 23) (w1 := (((w3.setCell ⟨q, 0, none⟩ (.int .u8 t1)).setCell ⟨q, 1, none⟩ (.string t2)).setCell ⟨q, 2, none⟩ (.int .i64 t3))) ?hg ?ho ?hn ?hr ?_; (case ho => rfl); (case hg => rfl); (case hn => rfl); (case hr => exact qaz7); intro w4 hw_; have BQ2 : Aside0 (w4.heap[q]? = some (.cells #[.int .u8 t1, .string t2, .int .i64 t3] 61 (0, 0))) := ⟨by rw [hw_]; exact toks_put3 BQ.out⟩; have BP2 : Aside0 (w4.heap[p]? = some (.cells #[.slice (some ad) l0_0.length c0_0, .string a0_1, .slice A0_2 l0_2.length c0_2] 25 (0, 0))) := ⟨by rw [hw_]; exact blk_far (blk_far (blk_far (BP.out) NQ.out _) NQ.out _) NQ.out _⟩; have HB2 : Aside0 (Below w.heap.size w w4) := ⟨by rw [hw_]; exact below_set (below_set (below_set (HB.out) GQ.out) GQ.out) GQ.out⟩; have HO2 : Aside0 (Kd.R k61 61 w4 w.heap.size (fun k => k ≠ p) (.slice A4 out.length q4) out) := ⟨by rw [hw_]; exact toks_far3 HO.out OQ.out⟩; clear hw_ HB BP HO BQ z0 zf0 z1 zf1 z2 zf2; have HB := HB2; have BP := BP2; have HO := HO2; have BQ := BQ2; clear HB2 BP2 HO2 BQ2; have z0 := bc0 BQ.out; have zf0 := blk_frozen BQ.out 0; have z1 := bc1 BQ.out; have zf1 := blk_frozen BQ.out 1; have z2 := bc2 BQ.out; have zf2 := blk_frozen BQ.out 2;  skip))
     first | go_ret2 | (rw [Exit.noGoto_ret]; go_ret2)
     exact ⟨_, rfl, Kd.R_nil _ _ _ _ _, HB.out⟩
    | true =>
     rw [if_pos rfl] at h
     obtain ⟨⟨u1, u2, u3⟩, hmk, h⟩ := Option.bind_eq_some_iff.1 h
     simp only [Option.bind_some] at h
     have cl : out.length + [(⟨t1, t2, t3⟩ : S61), (⟨u1, u2, u3⟩ : S61)].length < 4398046511104 := Decidable.byContradiction fun c => by rw [if_neg c] at h; cases h
     rw [if_pos cl] at h
     have HMK := Aside0.mk hmk
     have CL := Aside0.mk cl
     have HA := Aside0.mk h
     clear hmk cl h
     go_wp2_with (first | (go_at_call 30; have hT1 := Lib.tabBelow_of_tabIs HT.out _ HB.out; (with_reducible refine (line_label.calls s t1 t2 t3 _ _ hT1 (HD.out.below HB.out) (HE.out.below HB.out) HLB.out).mono ?_); clear hT1; rintro e w2 ⟨rfl, hb⟩; have HB2 := Aside0.mk (below_step HB.out hb); have BP2 := Aside0.mk (blk_below BP.out hb); have HO2 := Aside0.mk (Kd.R_below HO.out hb); clear HB BP HO; have HB := HB2; have BP := BP2; have HO := HO2; clear HB2 BP2 HO2; clear hb) | ((with_reducible refine gate_dst (N := 7) rfl ?_); refine box_event ?hg (N := 7) ?hd (cs := #[.int .u8 0, .string (⟨#[]⟩ : ByteArray), .int .i64 0]) (t := 61) ?hr ?_; (case hd => rfl); (case hg => rfl); (case hr => exact qaz7); intro q hg w3 hbox hb; have HB2 := Aside0.mk (below_step HB.out hb); have BP2 := Aside0.mk (blk_below BP.out hb); have HO2 := Aside0.mk (Kd.R_below HO.out hb); have BQ := Aside0.mk hbox; have GQ : Aside0 (w.heap.size ≤ q) := ⟨by rw [hg]; exact below_size HB.out⟩; have NQ : Aside0 (p ≠ q) := ⟨by rw [hg]; exact Nat.ne_of_lt (blk_lt BP.out)⟩; have OQ : Aside0 (∀ k, (.slice A4 out.length q4 : Value).ownBlock = some k → k ≠ q) := ⟨fun k hk e => by have := Kd.R_lt HO.out k hk; omega⟩; clear HB BP HO; have HB := HB2; have BP := BP2; have HO := HO2; clear HB2 BP2 HO2; have z0 := bc0 hbox; have zf0 := blk_frozen hbox 0; have z1 := bc1 hbox; have zf1 := blk_frozen hbox 1; have z2 := bc2 hbox; have zf2 := blk_frozen hbox 2;  clear hb hbox hg) | ((with_reducible refine gate_store (t := 61) (p := 7) (v := .tmp 23) rfl ?_); refine store_event (t := 61) (p := 7) (v := .tmp 23) (w1 := (((w3.setCell ⟨q, 0, none⟩ (.int .u8 t1)).setCell ⟨q, 1, none⟩ (.string t2)).setCell ⟨q, 2, none⟩ (.int .i64 t3))) ?hg ?ho ?hn ?hr ?_; (case ho => rfl); (case hg => rfl); (case hn => rfl); (case hr => exact qaz7); intro w4 hw_; have BQ2 : Aside0 (w4.heap[q]? = some (.cells #[.int .u8 t1, .string t2, .int .i64 t3] 61 (0, 0))) := ⟨by rw [hw_]; exact toks_put3 BQ.out⟩; have BP2 : Aside0 (w4.heap[p]? = some (.cells #[.slice (some ad) l0_0.length c0_0, .string a0_1, .slice A0_2 l0_2.length c0_2] 25 (0, 0))) := ⟨by rw [hw_]; exact blk_far (blk_far (blk_far (BP.out) NQ.out _) NQ.out _) NQ.out _⟩; have HB2 : Aside0 (Below w.heap.size w w4) := ⟨by rw [hw_]; exact below_set (below_set (below_set (HB.out) GQ.out) GQ.out) GQ.out⟩; have HO2 : Aside0 (Kd.R k61 61 w4 w.heap.size (fun k => k ≠ p) (.slice A4 out.length q4) out) := ⟨by rw [hw_]; exact toks_far3 HO.out OQ.out⟩; clear hw_ HB BP HO BQ z0 zf0 z1 zf1 z2 zf2; have HB := HB2; have BP := BP2; have HO := HO2; have BQ := BQ2; clear HB2 BP2 HO2 BQ2; have z0 := bc0 BQ.out; have zf0 := blk_frozen BQ.out 0; have z1 := bc1 BQ.out; have zf1 := blk_frozen BQ.out 1; have z2 := bc2 BQ.out; have zf2 := blk_frozen BQ.out 2;  skip))
     (first | (go_region_held3 (fun w' => w'.cell? ⟨q, 0, none⟩ = some (.int .u8 t1) ∧ w'.cell? ⟨q, 1, none⟩ = some (.string t2) ∧ w'.cell? ⟨q, 2, none⟩ = some (.int .i64 t3)) (first | exact told_S3 (blk_drew BQ.out) | exact told_S3 (blk_below (blk_drew BQ.out) hb8) | exact told_S3 (blk_alloc (blk_below (blk_drew BQ.out) hb8) _) | exact told_S3 BQX.out | fail) (first | (go_at_call 31; (with_reducible refine (line_mark.calls (⟨#[58]⟩ : ByteArray) u1 u2 u3 _ HMK.out).mono ?_); rintro e w8 ⟨rfl, hb8⟩; have HB8 := Aside0.mk (below_step (below_drew1 HB.out) hb8); have BP8 := Aside0.mk (blk_below (blk_drew BP.out) hb8); have BQ8 := Aside0.mk (blk_below (blk_drew BQ.out) hb8); have HO8 := Aside0.mk (Kd.R_below (Kd.R_drew HO.out) hb8)) | (refine Kd.R_append_rows_step k61 (w0 := w) w.heap.size (by rfl) (.tmp 27) (.tmp 30) 46 61 (.agg #[(.int .u8 0), (.string ⟨#[]⟩), (.int .i64 0)]) 32 rfl Tryz.underlying46 info61 rfl (by decide) (by omega) (.slice A4 out.length q4) out [(⟨t1, t2, t3⟩ : S61), (⟨u1, u2, u3⟩ : S61)] _ _ _ (fun k_ => k_ ≠ p ∧ k_ ≠ q) (fun _ => False) rfl rfl ?aO ?aR (fun _ _ h => h) (fun _ h => h.elim) ?aF ?aB ?aS ?aL ?_; (case aO => exact Kd.R_alloc (Kd.R_reok rfl HO8.out (fun k hk => ⟨HO8.out.1 k hk, OQ.out k hk⟩)) _); (case aR => exact (Kd.R_reads' (lit_row k61 (base := w.heap.size) (Reps.c3 (show Kd.M k61 _ _ _ (⟨t1, t2, t3⟩ : S61) [.int .u8 t1, .string t2, .int .i64 t3] from k61_mkM _ _ _ (⟨t1, t2, t3⟩ : S61)) (Reps.c3 (show Kd.M k61 _ _ _ (⟨u1, u2, u3⟩ : S61) [.int .u8 u1, .string u2, .int .i64 u3] from k61_mkM _ _ _ (⟨u1, u2, u3⟩ : S61)) (Reps.none _ _))) (below_size HB8.out) (by simp))).2.2); (case aF => exact fun k_ hk => by have := blk_lt BP8.out; have := blk_lt BQ8.out; simp at hk; omega); (case aB => exact below_alloc HB8.out _); (case aS => exact below_size (below_alloc HB8.out _)); (case aL => have := CL.out; simp at this ⊢; omega); intro v15 w15 ho hb hg hat; have BPX := Aside0.mk (blk_grown (blk_alloc BP8.out _) hg (fun e => HO8.out.1 _ e.symm rfl)); have BQX := Aside0.mk (blk_grown (blk_alloc BQ8.out _) hg (fun e => OQ.out _ e.symm rfl)); have HOX := Aside0.mk (Kd.R_mono (ok' := fun k_ => k_ ≠ p) ho (fun _ hk => hk.1)); have HBX := Aside0.mk hb; clear ho hb hg hat) | fail)) | fail)
     try go_wp2
     go_roundg k1
     case measure => have := HK.out; omega
     case rel => exact ⟨_, _, rfl, HA, ⟨by have := HK.out; omega⟩, HOX, BPX, HBX⟩
   ·
    rw [if_neg c4] at h
    have d4 : decide (i < (l0_0.length : Int)) = false := decide_eq_false c4
    have HA := Aside0.mk h
    clear h c4
    go_upto_if 35 with (fail)
    go_cut [4] (fun v4 wx => ∃ (kq : Nat) (out : List (S61)), Aside0 (line_tokens.j1 kq out l0_0 a0_1 l0_2 = some (r1, r2)) ∧ Aside0 (kq ≤ k1) ∧ Aside0 (Kd.R k61 61 wx w.heap.size (fun k => k ≠ p) v4 out) ∧ Aside0 (wx.heap[p]? = some (.cells #[.slice A0_0 l0_0.length c0_0, .string a0_1, .slice A0_2 l0_2.length c0_2] 25 (0, 0))) ∧ Aside0 (Below w.heap.size w wx))
    case first =>
     have h := HA.out
     clear HA
     by_cases ce : a0_1.toList = ([] : List UInt8)
     ·
      rw [if_pos ce] at h
      have e0 : (a0_1.toList == ([] : List UInt8)) = true := beq_iff_eq.mpr ce
      have e1 : (a0_1.toList != ([] : List UInt8)) = false := bne_eq_false_iff_eq.mpr ce
      have e2 : a0_1.toList.isEmpty = true := by rw [ce]; rfl
      have HA := Aside0.mk h
      clear h ce
      rw [e2]
      go_wp2
      go_meet
      case rel => exact ⟨_, _, HA, ⟨Nat.le_refl _⟩, HO, BP, HB⟩
     ·
      rw [if_neg ce] at h
      have e0 : (a0_1.toList == ([] : List UInt8)) = false := beq_eq_false_iff_ne.mpr ce
      have e1 : (a0_1.toList != ([] : List UInt8)) = true := bne_iff_ne.mpr ce
      have e2 : a0_1.toList.isEmpty = false := by cases hh : a0_1.toList with | nil => exact absurd hh ce | cons _ _ => rfl
      obtain ⟨⟨u1, u2, u3⟩, hmk, h⟩ := Option.bind_eq_some_iff.1 h
      have cl : out.length < 4398046511104 := Decidable.byContradiction fun c => by rw [if_neg c] at h; cases h
      rw [if_pos cl] at h
      have HMK := Aside0.mk hmk
      have CL := Aside0.mk cl
      have HA := Aside0.mk h
      clear h ce hmk cl
      rw [e2]
      go_wp2_with (first | ((with_reducible refine gate_callee (f := 32) rfl ?_); refine goesL_ (some 39) rfl rfl Tryz.func32 (by kernel_rfl) rfl #[.string a0_1] rfl qaz3 ?_; (with_reducible refine (line_word.calls a0_1 u1 u2 u3 _ HMK.out).mono ?_); rintro e w2 ⟨rfl, hb⟩; refine ⟨_, rfl, ?_⟩; have HB2 := Aside0.mk (below_step HB.out hb); have BP2 := Aside0.mk (blk_below BP.out hb); have HO2 := Aside0.mk (Kd.R_below HO.out hb); clear HB BP HO; have HB := HB2; have BP := BP2; have HO := HO2; clear HB2 BP2 HO2; clear hb) | ((with_reducible refine gate_builtin (b := .append) (xs := #[.tmp 36, .tmp 40]) rfl ?_); at_builtin; refine Kd.R_append k61 (w0 := w) w.heap.size rfl (.tmp 36) (.tmp 40) 46 61 (.agg #[(.int .u8 0), (.string ⟨#[]⟩), (.int .i64 0)]) 32 rfl Tryz.underlying46 info61 rfl (by decide) (by omega) (.slice A4 out.length q4) out (⟨u1, u2, u3⟩ : S61) [.int .u8 u1, .string u2, .int .i64 u3] (fun k => k ≠ p) (fun _ => False) rfl rfl ?aP (fun _ hk => hk.elim) ?aF ?aO ?aB ?aS ?aL ?_; (case aP => exact k61_mkM _ _ _ (⟨u1, u2, u3⟩ : S61)); (case aF => exact qaz6); (case aO => exact HO.out); (case aB => exact HB.out); (case aS => exact below_size HB.out); (case aL => have := CL.out; omega); intro v15 w15 ho hb hg hat; have BP2 := Aside0.mk (blk_grown BP.out hg (fun e => HO.out.1 _ e.symm rfl));  have HO2 := Aside0.mk ho; have HB2 := Aside0.mk hb; clear HB BP HO; have HB := HB2; have BP := BP2; have HO := HO2; clear HB2 BP2 HO2 ho hb hg hat; obtain ⟨A5, q5, hv5⟩ := Kd.R_slice HO.out; subst hv5))
      go_meet
      case rel => exact ⟨_, _, HA, ⟨Nat.le_refl _⟩, ⟨by have h7 := HO.out; rw [List.length_append] at h7; exact h7⟩, BP, HB⟩
    case rest =>
     clear HA HO BP HB c0 c1 c2 cf0 cf1 cf2
     obtain ⟨kq, out, HA, HJ, HO, BP, HB⟩ := hcut
     obtain ⟨A4, q4, hv4⟩ := Kd.R_slice HO.out
     subst hv4
     cases kq with
     | zero => exact absurd HA.out (by simp [line_tokens.j1])
     | succ k3 =>
     have h := HA.out
     clear HA
     simp only [line_tokens.j1] at h
     have HA := Aside0.mk h
     clear h
     have c0 := bc0 BP.out
     have cf0 := blk_frozen BP.out 0
     have c1 := bc1 BP.out
     have cf1 := blk_frozen BP.out 1
     have c2 := bc2 BP.out
     have cf2 := blk_frozen BP.out 2
     go_upto_region 12 with (fail)
     go_cut [67] (fun v67 wx => ∃ (kq : Nat) (b : Bool), v67 = .bool b ∧ Aside0 (line_tokens.j2 kq out b l0_0 a0_1 l0_2 = some (r1, r2)) ∧ Aside0 (kq ≤ k3) ∧ Aside0 (Kd.R k61 61 wx w.heap.size (fun k => k ≠ p) (.slice A4 out.length q4) out) ∧ Aside0 (wx.heap[p]? = some (.cells #[.slice A0_0 l0_0.length c0_0, .string a0_1, .slice A0_2 l0_2.length c0_2] 25 (0, 0))) ∧ Aside0 (Below w.heap.size w wx))
     case first =>
      have h := HA.out
      clear HA
      by_cases c8 : (l0_2.length : Int) > 8
      ·
       rw [if_pos c8] at h
       have e8 : decide ((8 : Int) < (l0_2.length : Int)) = true := decide_eq_true c8
       have e9 : decide (8 < l0_2.length) = true := decide_eq_true (by omega)
       have HA := Aside0.mk h
       clear h c8
       go_wp2
       go_meet
       case rel => exact ⟨_, true, rfl, HA, ⟨Nat.le_refl _⟩, HO, BP, HB⟩
      ·
       rw [if_neg c8] at h
       have e8 : decide ((8 : Int) < (l0_2.length : Int)) = false := decide_eq_false c8
       have e9 : decide (8 < l0_2.length) = false := decide_eq_false (by omega)
       clear c8
       by_cases ce : a0_1.toList = ([] : List UInt8)
       ·
        rw [if_pos ce] at h
        have e0 : (a0_1.toList == ([] : List UInt8)) = true := beq_iff_eq.mpr ce
        have e1 : (a0_1.toList != ([] : List UInt8)) = false := bne_eq_false_iff_eq.mpr ce
        have e2 : a0_1.toList.isEmpty = true := by rw [ce]; rfl
        have HA := Aside0.mk h
        clear h ce
        go_wp2
        go_meet
        case rel => exact ⟨_, _, (by first | rfl | (simp; done)), HA, ⟨Nat.le_refl _⟩, HO, BP, HB⟩
       ·
        rw [if_neg ce] at h
        have e0 : (a0_1.toList == ([] : List UInt8)) = false := beq_eq_false_iff_ne.mpr ce
        have e1 : (a0_1.toList != ([] : List UInt8)) = true := bne_iff_ne.mpr ce
        have e2 : a0_1.toList.isEmpty = false := by cases hh : a0_1.toList with | nil => exact absurd hh ce | cons _ _ => rfl
        obtain ⟨t, hn, h⟩ := Option.bind_eq_some_iff.1 h
        have HN := Aside0.mk hn
        clear hn ce
        cases t with
        | true =>
         rw [if_pos rfl] at h
         have HA := Aside0.mk h
         clear h
         go_wp2_with (first | (go_at_call 33; have hT1 := Lib.tabBelow_of_tabIs HT.out _ HB.out; (with_reducible refine (line_name.calls k3 a0_1 true _ hT1 (HD.out.below HB.out) HN.out).mono ?_); clear hT1; rintro e w2 ⟨rfl, hb⟩; have HB2 := Aside0.mk (below_step HB.out hb); have BP2 := Aside0.mk (blk_below BP.out hb); have HO2 := Aside0.mk (Kd.R_below HO.out hb); clear HB BP HO; have HB := HB2; have BP := BP2; have HO := HO2; clear HB2 BP2 HO2; clear hb c0 c1 c2 cf0 cf1 cf2; have c0 := bc0 BP.out; have cf0 := blk_frozen BP.out 0; have c1 := bc1 BP.out; have cf1 := blk_frozen BP.out 1; have c2 := bc2 BP.out; have cf2 := blk_frozen BP.out 2;  skip))
         go_meet
         case rel => exact ⟨_, false, rfl, HA, ⟨Nat.le_refl _⟩, HO, BP, HB⟩
        | false =>
         rw [if_neg (by simp)] at h
         have HA := Aside0.mk h
         clear h
         go_wp2_with (first | (go_at_call 33; have hT1 := Lib.tabBelow_of_tabIs HT.out _ HB.out; (with_reducible refine (line_name.calls k3 a0_1 false _ hT1 (HD.out.below HB.out) HN.out).mono ?_); clear hT1; rintro e w2 ⟨rfl, hb⟩; have HB2 := Aside0.mk (below_step HB.out hb); have BP2 := Aside0.mk (blk_below BP.out hb); have HO2 := Aside0.mk (Kd.R_below HO.out hb); clear HB BP HO; have HB := HB2; have BP := BP2; have HO := HO2; clear HB2 BP2 HO2; clear hb c0 c1 c2 cf0 cf1 cf2; have c0 := bc0 BP.out; have cf0 := blk_frozen BP.out 0; have c1 := bc1 BP.out; have cf1 := blk_frozen BP.out 1; have c2 := bc2 BP.out; have cf2 := blk_frozen BP.out 2;  skip))
         go_meet
         case rel => exact ⟨_, true, rfl, HA, ⟨Nat.le_refl _⟩, HO, BP, HB⟩
     case rest =>
      clear HA HO BP HB c0 c1 c2 cf0 cf1 cf2
      obtain ⟨kq, b, rfl, HA, HJ2, HO, BP, HB⟩ := hcut
      cases kq with
      | zero => exact absurd HA.out (by simp [line_tokens.j2])
      | succ k5 =>
      have h := HA.out
      clear HA
      simp only [line_tokens.j2] at h
      have c0 := bc0 BP.out
      have cf0 := blk_frozen BP.out 0
      have c1 := bc1 BP.out
      have cf1 := blk_frozen BP.out 1
      have c2 := bc2 BP.out
      have cf2 := blk_frozen BP.out 2
      cases b with
      | true =>
       rw [if_pos rfl] at h
       cases h
       go_wp2
       go_ret2
       exact ⟨_, rfl, Kd.R_nil _ _ _ _ _, HB.out⟩
      | false =>
       rw [if_neg (by simp)] at h
       have HA := Aside0.mk h
       clear h
       go_wp2
       go_loopg [4, 71] k5 (fun kq v4 v71 wx => ∃ (out : List (S61)) (i : Int), v71 = .int .i64 i ∧ Aside0 (line_tokens.l1 kq out l0_2 (l0_2.length : Int) i = some (r1, r2)) ∧ Aside0 (kq ≤ k5) ∧ Aside0 (Kd.R k61 61 wx w.heap.size (fun k => k ≠ p) v4 out) ∧ Aside0 (wx.heap[p]? = some (.cells #[.slice A0_0 l0_0.length c0_0, .string a0_1, .slice A0_2 l0_2.length c0_2] 25 (0, 0))) ∧ Aside0 (Below w.heap.size w wx))
       case atStart => exact ⟨_, 0, rfl, HA, ⟨Nat.le_refl _⟩, HO, BP, HB⟩
       case round =>
        clear HA HO BP HB c0 c1 c2 cf0 cf1 cf2
        obtain ⟨out, i, rfl, HA, HK2, HO, BP, HB⟩ := hrel
        obtain ⟨A4, q4, hv4⟩ := Kd.R_slice HO.out
        subst hv4
        cases gk with
        | zero => exact absurd HA.out (by simp [line_tokens.l1])
        | succ k4 =>
        have h := HA.out
        clear HA
        simp only [line_tokens.l1] at h
        by_cases c4 : i < (l0_2.length : Int)
        ·
         rw [if_pos c4] at h
         have c5 : 0 ≤ i := Decidable.byContradiction fun c => by rw [if_neg c] at h; cases h
         rw [if_pos c5, if_pos c4] at h
         obtain ⟨ad, e, x0, x1, x2, x3, x4, x5, x6⟩ := at_T40 RA.out i c5 c4
         cases e
         replace x0 := (HB.out.cell (World.block_lt_of_cell? w _ x0)).trans x0
         replace x1 := (HB.out.cell (World.block_lt_of_cell? w _ x1)).trans x1
         replace x2 := (HB.out.cell (World.block_lt_of_cell? w _ x2)).trans x2
         replace x3 := (HB.out.cell (World.block_lt_of_cell? w _ x3)).trans x3
         replace x4 := (HB.out.cell (World.block_lt_of_cell? w _ x4)).trans x4
         replace x5 := (HB.out.cell (World.block_lt_of_cell? w _ x5)).trans x5
         replace x6 := (HB.out.cell (World.block_lt_of_cell? w _ x6)).trans x6
         have d4 : decide (i < (l0_2.length : Int)) = true := decide_eq_true c4
         have e4 := eq_true c4
         have e5 := eq_true c5
         obtain ⟨a0, a1, ⟨a2, a3, a4, a5⟩, a6, ht⟩ : ∃ a0 a1 a2 a6, rd_T40 l0_2 i = ⟨a0, a1, a2, a6⟩ := ⟨_, _, _, _, rfl⟩
         rw [ht] at h x0 x1 x2 x3 x4 x5 x6
         simp only at h x0 x1 x2 x3 x4 x5 x6
         clear ht
         by_cases c0 : i > 0
         ·
          rw [if_pos c0] at h
          have d0 : decide (0 < i) = true := decide_eq_true c0
          have e0 := eq_true (show 0 < i from c0)
          obtain ⟨⟨u1, u2, u3⟩, hmk, h⟩ := Option.bind_eq_some_iff.1 h
          have cl : out.length < 4398046511104 := Decidable.byContradiction fun c => by rw [if_neg c] at h; cases h
          rw [if_pos cl] at h
          simp only [Option.bind_some] at h
          obtain ⟨⟨tl, tb⟩, htd, h⟩ := Option.bind_eq_some_iff.1 h
          have HMK := Aside0.mk hmk
          have CL := Aside0.mk cl
          have HTD := Aside0.mk htd
          clear hmk cl htd c0
          cases tb with
          | false =>
           rw [if_neg (by simp)] at h
           cases h
           go_wp2_with (first | ((with_reducible refine gate_dst (N := 10) rfl ?_); refine box_event ?hg (N := 10) ?hd (cs := #[.int .u8 0, .int .i64 0, .string (⟨#[]⟩ : ByteArray), .string (⟨#[]⟩ : ByteArray), .int .i64 0, .int .u8 0, .string (⟨#[]⟩ : ByteArray)]) (t := 40) ?hr ?_; (case hd => rfl); (case hg => rfl); (case hr => exact qaz7); intro q hg w3 hbox hb; have HB2 := Aside0.mk (below_step HB.out hb); have BP2 := Aside0.mk (blk_below BP.out hb); have HO2 := Aside0.mk (Kd.R_below HO.out hb); have BQ := Aside0.mk hbox; have GQ : Aside0 (w.heap.size ≤ q) := ⟨by rw [hg]; exact below_size HB.out⟩; have NQ : Aside0 (p ≠ q) := ⟨by rw [hg]; exact Nat.ne_of_lt (blk_lt BP.out)⟩; have OQ : Aside0 (∀ k, (.slice A4 out.length q4 : Value).ownBlock = some k → k ≠ q) := ⟨fun k hk e => by have := Kd.R_lt HO.out k hk; omega⟩; clear HB BP HO; have HB := HB2; have BP := BP2; have HO := HO2; clear HB2 BP2 HO2; have z0 := bc0 hbox; have zf0 := blk_frozen hbox 0; have z1 := bc1 hbox; have zf1 := blk_frozen hbox 1; have z2 := bc2 hbox; have zf2 := blk_frozen hbox 2; have z3 := bc3 hbox; have zf3 := blk_frozen hbox 3; have z4 := bc4 hbox; have zf4 := blk_frozen hbox 4; have z5 := bc5 hbox; have zf5 := blk_frozen hbox 5; have z6 := bc6 hbox; have zf6 := blk_frozen hbox 6;  clear hb hbox hg) | ((with_reducible refine gate_store (t := 40) (p := 10) (v := .tmp 75) rfl ?_); refine store_event (t := 40) (p := 10) (v := .tmp 75) (w1 := (((((((w3.setCell ⟨q, 0, none⟩ (.int .u8 a0)).setCell ⟨q, 1, none⟩ (.int .i64 a1)).setCell ⟨q, 2, none⟩ (.string a2)).setCell ⟨q, 3, none⟩ (.string a3)).setCell ⟨q, 4, none⟩ (.int .i64 a4)).setCell ⟨q, 5, none⟩ (.int .u8 a5)).setCell ⟨q, 6, none⟩ (.string a6))) ?hg ?ho ?hn ?hr ?_; (case ho => rfl); (case hg => rfl); (case hn => rfl); (case hr => exact qaz7); intro w4 hw_; have BQ2 : Aside0 (w4.heap[q]? = some (.cells #[.int .u8 a0, .int .i64 a1, .string a2, .string a3, .int .i64 a4, .int .u8 a5, .string a6] 40 (0, 0))) := ⟨by rw [hw_]; exact toks_put7 BQ.out⟩; have BP2 : Aside0 (w4.heap[p]? = some (.cells #[.slice A0_0 l0_0.length c0_0, .string a0_1, .slice (some ad) l0_2.length c0_2] 25 (0, 0))) := ⟨by rw [hw_]; exact blk_far (blk_far (blk_far (blk_far (blk_far (blk_far (blk_far (BP.out) NQ.out _) NQ.out _) NQ.out _) NQ.out _) NQ.out _) NQ.out _) NQ.out _⟩; have HB2 : Aside0 (Below w.heap.size w w4) := ⟨by rw [hw_]; exact below_set (below_set (below_set (below_set (below_set (below_set (below_set (HB.out) GQ.out) GQ.out) GQ.out) GQ.out) GQ.out) GQ.out) GQ.out⟩; have HO2 : Aside0 (Kd.R k61 61 w4 w.heap.size (fun k => k ≠ p) (.slice A4 out.length q4) out) := ⟨by rw [hw_]; exact toks_far7 HO.out OQ.out⟩; clear hw_ HB BP HO BQ z0 zf0 z1 zf1 z2 zf2 z3 zf3 z4 zf4 z5 zf5 z6 zf6; have HB := HB2; have BP := BP2; have HO := HO2; have BQ := BQ2; clear HB2 BP2 HO2 BQ2; have z0 := bc0 BQ.out; have zf0 := blk_frozen BQ.out 0; have z1 := bc1 BQ.out; have zf1 := blk_frozen BQ.out 1; have z2 := bc2 BQ.out; have zf2 := blk_frozen BQ.out 2; have z3 := bc3 BQ.out; have zf3 := blk_frozen BQ.out 3; have z4 := bc4 BQ.out; have zf4 := blk_frozen BQ.out 4; have z5 := bc5 BQ.out; have zf5 := blk_frozen BQ.out 5; have z6 := bc6 BQ.out; have zf6 := blk_frozen BQ.out 6;  skip) | ((with_reducible refine gate_callee (f := 31) rfl ?_); refine goesL_ (some 79) rfl rfl Tryz.func31 (by kernel_rfl) rfl #[.string (⟨#[44]⟩ : ByteArray)] rfl qaz3 ?_; (with_reducible refine (line_mark.calls (⟨#[44]⟩ : ByteArray) u1 u2 u3 _ HMK.out).mono ?_); rintro e w5 ⟨rfl, hb⟩; refine ⟨_, rfl, ?_⟩; have BQ2 := Aside0.mk (blk_below BQ.out hb); clear BQ; have BQ := BQ2; clear BQ2; have HB2 := Aside0.mk (below_step HB.out hb); have BP2 := Aside0.mk (blk_below BP.out hb); have HO2 := Aside0.mk (Kd.R_below HO.out hb); clear HB BP HO; have HB := HB2; have BP := BP2; have HO := HO2; clear HB2 BP2 HO2; clear hb) | ((with_reducible refine gate_builtin (b := .append) (xs := #[.tmp 78, .tmp 80]) rfl ?_); at_builtin; refine Kd.R_append k61 (w0 := w) w.heap.size rfl (.tmp 78) (.tmp 80) 46 61 (.agg #[(.int .u8 0), (.string ⟨#[]⟩), (.int .i64 0)]) 32 rfl Tryz.underlying46 info61 rfl (by decide) (by omega) (.slice A4 out.length q4) out (⟨u1, u2, u3⟩ : S61) [.int .u8 u1, .string u2, .int .i64 u3] (fun k => k ≠ p) (fun _ => False) rfl rfl ?aP (fun _ hk => hk.elim) ?aF ?aO ?aB ?aS ?aL ?_; (case aP => exact k61_mkM _ _ _ (⟨u1, u2, u3⟩ : S61)); (case aF => exact qaz6); (case aO => exact HO.out); (case aB => exact HB.out); (case aS => exact below_size HB.out); (case aL => have := CL.out; omega); intro v15 w15 ho hb hg hat; have BP2 := Aside0.mk (blk_grown BP.out hg (fun e => HO.out.1 _ e.symm rfl)); have BQ2 := Aside0.mk (blk_grown BQ.out hg (fun e => OQ.out _ e.symm rfl)); clear BQ z0 z1 z2 z3 z4 z5 z6 zf0 zf1 zf2 zf3 zf4 zf5 zf6; have BQ := BQ2; clear BQ2; have z0 := bc0 BQ.out; have zf0 := blk_frozen BQ.out 0; have z1 := bc1 BQ.out; have zf1 := blk_frozen BQ.out 1; have z2 := bc2 BQ.out; have zf2 := blk_frozen BQ.out 2; have z3 := bc3 BQ.out; have zf3 := blk_frozen BQ.out 3; have z4 := bc4 BQ.out; have zf4 := blk_frozen BQ.out 4; have z5 := bc5 BQ.out; have zf5 := blk_frozen BQ.out 5; have z6 := bc6 BQ.out; have zf6 := blk_frozen BQ.out 6;  have HO2 := Aside0.mk ho; have HB2 := Aside0.mk hb; clear HB BP HO; have HB := HB2; have BP := BP2; have HO := HO2; clear HB2 BP2 HO2 ho hb hg hat; obtain ⟨A5, q5, hv5⟩ := Kd.R_slice HO.out; subst hv5; have HO2 : Aside0 (Kd.R k61 61 w15 w.heap.size (fun k => k ≠ p) (.slice A5 (out.length + 1) q5) (out ++ [(⟨u1, u2, u3⟩ : S61)])) := ⟨by have h7 := HO.out; rw [List.length_append] at h7; exact h7⟩; clear HO; have HO := HO2; clear HO2) | (go_at_call 34; have hT1 := Lib.tabBelow_of_tabIs HT.out _ HB.out; (with_reducible refine (line_told.calls k4 a0 a1 a2 a3 a4 a5 a6 tl _ _ hT1 (HD.out.below HB.out) (HM.out.below HB.out) (HG.out.below HB.out) HTD.out).mono ?_); clear hT1; rintro e w6 ⟨vt, rfl, hr, hb⟩; obtain ⟨At, qt, hvt, hqt, hCt⟩ := Kd.R_reads hr; subst hvt; have HTL := Aside0.mk hCt; have HB2 := Aside0.mk (below_step HB.out hb); have BP2 := Aside0.mk (blk_below BP.out hb); have HO2 := Aside0.mk (Kd.R_below HO.out hb); clear HB BP HO; have HB := HB2; have BP := BP2; have HO := HO2; clear HB2 BP2 HO2; clear hb hr hqt hCt))
           first | go_ret2 | (rw [Exit.noGoto_ret]; go_ret2)
           exact ⟨_, rfl, Kd.R_nil _ _ _ _ _, HB.out⟩
          | true =>
           rw [if_pos rfl] at h
           have cm : (out ++ [(⟨u1, u2, u3⟩ : S61)]).length + tl.length < 4398046511104 := Decidable.byContradiction fun c => by rw [if_neg c] at h; cases h
           rw [if_pos cm] at h
           have CM := Aside0.mk cm
           have HA := Aside0.mk h
           clear cm h
           go_wp2_with (first | ((with_reducible refine gate_dst (N := 10) rfl ?_); refine box_event ?hg (N := 10) ?hd (cs := #[.int .u8 0, .int .i64 0, .string (⟨#[]⟩ : ByteArray), .string (⟨#[]⟩ : ByteArray), .int .i64 0, .int .u8 0, .string (⟨#[]⟩ : ByteArray)]) (t := 40) ?hr ?_; (case hd => rfl); (case hg => rfl); (case hr => exact qaz7); intro q hg w3 hbox hb; have HB2 := Aside0.mk (below_step HB.out hb); have BP2 := Aside0.mk (blk_below BP.out hb); have HO2 := Aside0.mk (Kd.R_below HO.out hb); have BQ := Aside0.mk hbox; have GQ : Aside0 (w.heap.size ≤ q) := ⟨by rw [hg]; exact below_size HB.out⟩; have NQ : Aside0 (p ≠ q) := ⟨by rw [hg]; exact Nat.ne_of_lt (blk_lt BP.out)⟩; have OQ : Aside0 (∀ k, (.slice A4 out.length q4 : Value).ownBlock = some k → k ≠ q) := ⟨fun k hk e => by have := Kd.R_lt HO.out k hk; omega⟩; clear HB BP HO; have HB := HB2; have BP := BP2; have HO := HO2; clear HB2 BP2 HO2; have z0 := bc0 hbox; have zf0 := blk_frozen hbox 0; have z1 := bc1 hbox; have zf1 := blk_frozen hbox 1; have z2 := bc2 hbox; have zf2 := blk_frozen hbox 2; have z3 := bc3 hbox; have zf3 := blk_frozen hbox 3; have z4 := bc4 hbox; have zf4 := blk_frozen hbox 4; have z5 := bc5 hbox; have zf5 := blk_frozen hbox 5; have z6 := bc6 hbox; have zf6 := blk_frozen hbox 6;  clear hb hbox hg) | ((with_reducible refine gate_store (t := 40) (p := 10) (v := .tmp 75) rfl ?_); refine store_event (t := 40) (p := 10) (v := .tmp 75) (w1 := (((((((w3.setCell ⟨q, 0, none⟩ (.int .u8 a0)).setCell ⟨q, 1, none⟩ (.int .i64 a1)).setCell ⟨q, 2, none⟩ (.string a2)).setCell ⟨q, 3, none⟩ (.string a3)).setCell ⟨q, 4, none⟩ (.int .i64 a4)).setCell ⟨q, 5, none⟩ (.int .u8 a5)).setCell ⟨q, 6, none⟩ (.string a6))) ?hg ?ho ?hn ?hr ?_; (case ho => rfl); (case hg => rfl); (case hn => rfl); (case hr => exact qaz7); intro w4 hw_; have BQ2 : Aside0 (w4.heap[q]? = some (.cells #[.int .u8 a0, .int .i64 a1, .string a2, .string a3, .int .i64 a4, .int .u8 a5, .string a6] 40 (0, 0))) := ⟨by rw [hw_]; exact toks_put7 BQ.out⟩; have BP2 : Aside0 (w4.heap[p]? = some (.cells #[.slice A0_0 l0_0.length c0_0, .string a0_1, .slice (some ad) l0_2.length c0_2] 25 (0, 0))) := ⟨by rw [hw_]; exact blk_far (blk_far (blk_far (blk_far (blk_far (blk_far (blk_far (BP.out) NQ.out _) NQ.out _) NQ.out _) NQ.out _) NQ.out _) NQ.out _) NQ.out _⟩; have HB2 : Aside0 (Below w.heap.size w w4) := ⟨by rw [hw_]; exact below_set (below_set (below_set (below_set (below_set (below_set (below_set (HB.out) GQ.out) GQ.out) GQ.out) GQ.out) GQ.out) GQ.out) GQ.out⟩; have HO2 : Aside0 (Kd.R k61 61 w4 w.heap.size (fun k => k ≠ p) (.slice A4 out.length q4) out) := ⟨by rw [hw_]; exact toks_far7 HO.out OQ.out⟩; clear hw_ HB BP HO BQ z0 zf0 z1 zf1 z2 zf2 z3 zf3 z4 zf4 z5 zf5 z6 zf6; have HB := HB2; have BP := BP2; have HO := HO2; have BQ := BQ2; clear HB2 BP2 HO2 BQ2; have z0 := bc0 BQ.out; have zf0 := blk_frozen BQ.out 0; have z1 := bc1 BQ.out; have zf1 := blk_frozen BQ.out 1; have z2 := bc2 BQ.out; have zf2 := blk_frozen BQ.out 2; have z3 := bc3 BQ.out; have zf3 := blk_frozen BQ.out 3; have z4 := bc4 BQ.out; have zf4 := blk_frozen BQ.out 4; have z5 := bc5 BQ.out; have zf5 := blk_frozen BQ.out 5; have z6 := bc6 BQ.out; have zf6 := blk_frozen BQ.out 6;  skip) | ((with_reducible refine gate_callee (f := 31) rfl ?_); refine goesL_ (some 79) rfl rfl Tryz.func31 (by kernel_rfl) rfl #[.string (⟨#[44]⟩ : ByteArray)] rfl qaz3 ?_; (with_reducible refine (line_mark.calls (⟨#[44]⟩ : ByteArray) u1 u2 u3 _ HMK.out).mono ?_); rintro e w5 ⟨rfl, hb⟩; refine ⟨_, rfl, ?_⟩; have BQ2 := Aside0.mk (blk_below BQ.out hb); clear BQ; have BQ := BQ2; clear BQ2; have HB2 := Aside0.mk (below_step HB.out hb); have BP2 := Aside0.mk (blk_below BP.out hb); have HO2 := Aside0.mk (Kd.R_below HO.out hb); clear HB BP HO; have HB := HB2; have BP := BP2; have HO := HO2; clear HB2 BP2 HO2; clear hb) | ((with_reducible refine gate_builtin (b := .append) (xs := #[.tmp 78, .tmp 80]) rfl ?_); at_builtin; refine Kd.R_append k61 (w0 := w) w.heap.size rfl (.tmp 78) (.tmp 80) 46 61 (.agg #[(.int .u8 0), (.string ⟨#[]⟩), (.int .i64 0)]) 32 rfl Tryz.underlying46 info61 rfl (by decide) (by omega) (.slice A4 out.length q4) out (⟨u1, u2, u3⟩ : S61) [.int .u8 u1, .string u2, .int .i64 u3] (fun k => k ≠ p) (fun _ => False) rfl rfl ?aP (fun _ hk => hk.elim) ?aF ?aO ?aB ?aS ?aL ?_; (case aP => exact k61_mkM _ _ _ (⟨u1, u2, u3⟩ : S61)); (case aF => exact qaz6); (case aO => exact HO.out); (case aB => exact HB.out); (case aS => exact below_size HB.out); (case aL => have := CL.out; omega); intro v15 w15 ho hb hg hat; have BP2 := Aside0.mk (blk_grown BP.out hg (fun e => HO.out.1 _ e.symm rfl)); have BQ2 := Aside0.mk (blk_grown BQ.out hg (fun e => OQ.out _ e.symm rfl)); clear BQ z0 z1 z2 z3 z4 z5 z6 zf0 zf1 zf2 zf3 zf4 zf5 zf6; have BQ := BQ2; clear BQ2; have z0 := bc0 BQ.out; have zf0 := blk_frozen BQ.out 0; have z1 := bc1 BQ.out; have zf1 := blk_frozen BQ.out 1; have z2 := bc2 BQ.out; have zf2 := blk_frozen BQ.out 2; have z3 := bc3 BQ.out; have zf3 := blk_frozen BQ.out 3; have z4 := bc4 BQ.out; have zf4 := blk_frozen BQ.out 4; have z5 := bc5 BQ.out; have zf5 := blk_frozen BQ.out 5; have z6 := bc6 BQ.out; have zf6 := blk_frozen BQ.out 6;  have HO2 := Aside0.mk ho; have HB2 := Aside0.mk hb; clear HB BP HO; have HB := HB2; have BP := BP2; have HO := HO2; clear HB2 BP2 HO2 ho hb hg hat; obtain ⟨A5, q5, hv5⟩ := Kd.R_slice HO.out; subst hv5; have HO2 : Aside0 (Kd.R k61 61 w15 w.heap.size (fun k => k ≠ p) (.slice A5 (out.length + 1) q5) (out ++ [(⟨u1, u2, u3⟩ : S61)])) := ⟨by have h7 := HO.out; rw [List.length_append] at h7; exact h7⟩; clear HO; have HO := HO2; clear HO2) | (go_at_call 34; have hT1 := Lib.tabBelow_of_tabIs HT.out _ HB.out; (with_reducible refine (line_told.calls k4 a0 a1 a2 a3 a4 a5 a6 tl _ _ hT1 (HD.out.below HB.out) (HM.out.below HB.out) (HG.out.below HB.out) HTD.out).mono ?_); clear hT1; rintro e w6 ⟨vt, rfl, hr, hb⟩; obtain ⟨At, qt, hvt, hqt, hCt⟩ := Kd.R_reads hr; subst hvt; have HTL := Aside0.mk hCt; have HB2 := Aside0.mk (below_step HB.out hb); have BP2 := Aside0.mk (blk_below BP.out hb); have HO2 := Aside0.mk (Kd.R_below HO.out hb); clear HB BP HO; have HB := HB2; have BP := BP2; have HO := HO2; clear HB2 BP2 HO2; clear hb hr hqt hCt) | ((with_reducible refine gate_builtin (b := .append) (xs := #[.tmp 89, .tmp 90]) rfl ?_); at_builtin; refine Kd.R_append_rows k61 (w0 := w) w.heap.size rfl (.tmp 89) (.tmp 90) 46 61 (.agg #[(.int .u8 0), (.string ⟨#[]⟩), (.int .i64 0)]) 32 rfl Tryz.underlying46 info61 rfl (by decide) (by omega) (.slice A5 (out.length + 1) q5) (out ++ [(⟨u1, u2, u3⟩ : S61)]) tl _ _ _ (fun k => k ≠ p) (fun _ => False) rfl rfl ?aO ?aR (fun _ _ h => h) (fun _ h => h.elim) ?aF ?aB ?aS ?aL ?_; (case aR => exact HTL.out); (case aF => exact qaz6); (case aO => exact HO.out); (case aB => exact HB.out); (case aS => exact below_size HB.out); (case aL => have := CM.out; omega); intro v16 w16 ho hb hg hat; have BP2 := Aside0.mk (blk_grown BP.out hg (fun e => HO.out.1 _ e.symm rfl)); have HO2 := Aside0.mk ho; have HB2 := Aside0.mk hb; clear HB BP HO; have HB := HB2; have BP := BP2; have HO := HO2; clear HB2 BP2 HO2 ho hb hg hat))
           try go_wp2
           go_roundg k4
           case measure => have := HK2.out; omega
           case rel => exact ⟨_, _, rfl, HA, ⟨by have := HK2.out; omega⟩, HO, BP, HB⟩
         ·
          rw [if_neg c0] at h
          have d0 : decide (0 < i) = false := decide_eq_false c0
          obtain ⟨⟨tl, tb⟩, htd, h⟩ := Option.bind_eq_some_iff.1 h
          have HTD := Aside0.mk htd
          have e0 := eq_false (show ¬ 0 < i from c0)
          clear htd c0
          cases tb with
          | false =>
           rw [if_neg (by simp)] at h
           cases h
           go_wp2_with (first | ((with_reducible refine gate_dst (N := 10) rfl ?_); refine box_event ?hg (N := 10) ?hd (cs := #[.int .u8 0, .int .i64 0, .string (⟨#[]⟩ : ByteArray), .string (⟨#[]⟩ : ByteArray), .int .i64 0, .int .u8 0, .string (⟨#[]⟩ : ByteArray)]) (t := 40) ?hr ?_; (case hd => rfl); (case hg => rfl); (case hr => exact qaz7); intro q hg w3 hbox hb; have HB2 := Aside0.mk (below_step HB.out hb); have BP2 := Aside0.mk (blk_below BP.out hb); have HO2 := Aside0.mk (Kd.R_below HO.out hb); have BQ := Aside0.mk hbox; have GQ : Aside0 (w.heap.size ≤ q) := ⟨by rw [hg]; exact below_size HB.out⟩; have NQ : Aside0 (p ≠ q) := ⟨by rw [hg]; exact Nat.ne_of_lt (blk_lt BP.out)⟩; have OQ : Aside0 (∀ k, (.slice A4 out.length q4 : Value).ownBlock = some k → k ≠ q) := ⟨fun k hk e => by have := Kd.R_lt HO.out k hk; omega⟩; clear HB BP HO; have HB := HB2; have BP := BP2; have HO := HO2; clear HB2 BP2 HO2; have z0 := bc0 hbox; have zf0 := blk_frozen hbox 0; have z1 := bc1 hbox; have zf1 := blk_frozen hbox 1; have z2 := bc2 hbox; have zf2 := blk_frozen hbox 2; have z3 := bc3 hbox; have zf3 := blk_frozen hbox 3; have z4 := bc4 hbox; have zf4 := blk_frozen hbox 4; have z5 := bc5 hbox; have zf5 := blk_frozen hbox 5; have z6 := bc6 hbox; have zf6 := blk_frozen hbox 6;  clear hb hbox hg) | ((with_reducible refine gate_store (t := 40) (p := 10) (v := .tmp 75) rfl ?_); refine store_event (t := 40) (p := 10) (v := .tmp 75) (w1 := (((((((w3.setCell ⟨q, 0, none⟩ (.int .u8 a0)).setCell ⟨q, 1, none⟩ (.int .i64 a1)).setCell ⟨q, 2, none⟩ (.string a2)).setCell ⟨q, 3, none⟩ (.string a3)).setCell ⟨q, 4, none⟩ (.int .i64 a4)).setCell ⟨q, 5, none⟩ (.int .u8 a5)).setCell ⟨q, 6, none⟩ (.string a6))) ?hg ?ho ?hn ?hr ?_; (case ho => rfl); (case hg => rfl); (case hn => rfl); (case hr => exact qaz7); intro w4 hw_; have BQ2 : Aside0 (w4.heap[q]? = some (.cells #[.int .u8 a0, .int .i64 a1, .string a2, .string a3, .int .i64 a4, .int .u8 a5, .string a6] 40 (0, 0))) := ⟨by rw [hw_]; exact toks_put7 BQ.out⟩; have BP2 : Aside0 (w4.heap[p]? = some (.cells #[.slice A0_0 l0_0.length c0_0, .string a0_1, .slice (some ad) l0_2.length c0_2] 25 (0, 0))) := ⟨by rw [hw_]; exact blk_far (blk_far (blk_far (blk_far (blk_far (blk_far (blk_far (BP.out) NQ.out _) NQ.out _) NQ.out _) NQ.out _) NQ.out _) NQ.out _) NQ.out _⟩; have HB2 : Aside0 (Below w.heap.size w w4) := ⟨by rw [hw_]; exact below_set (below_set (below_set (below_set (below_set (below_set (below_set (HB.out) GQ.out) GQ.out) GQ.out) GQ.out) GQ.out) GQ.out) GQ.out⟩; have HO2 : Aside0 (Kd.R k61 61 w4 w.heap.size (fun k => k ≠ p) (.slice A4 out.length q4) out) := ⟨by rw [hw_]; exact toks_far7 HO.out OQ.out⟩; clear hw_ HB BP HO BQ z0 zf0 z1 zf1 z2 zf2 z3 zf3 z4 zf4 z5 zf5 z6 zf6; have HB := HB2; have BP := BP2; have HO := HO2; have BQ := BQ2; clear HB2 BP2 HO2 BQ2; have z0 := bc0 BQ.out; have zf0 := blk_frozen BQ.out 0; have z1 := bc1 BQ.out; have zf1 := blk_frozen BQ.out 1; have z2 := bc2 BQ.out; have zf2 := blk_frozen BQ.out 2; have z3 := bc3 BQ.out; have zf3 := blk_frozen BQ.out 3; have z4 := bc4 BQ.out; have zf4 := blk_frozen BQ.out 4; have z5 := bc5 BQ.out; have zf5 := blk_frozen BQ.out 5; have z6 := bc6 BQ.out; have zf6 := blk_frozen BQ.out 6;  skip) | (go_at_call 34; have hT1 := Lib.tabBelow_of_tabIs HT.out _ HB.out; (with_reducible refine (line_told.calls k4 a0 a1 a2 a3 a4 a5 a6 tl _ _ hT1 (HD.out.below HB.out) (HM.out.below HB.out) (HG.out.below HB.out) HTD.out).mono ?_); clear hT1; rintro e w6 ⟨vt, rfl, hr, hb⟩; obtain ⟨At, qt, hvt, hqt, hCt⟩ := Kd.R_reads hr; subst hvt; have HTL := Aside0.mk hCt; have HB2 := Aside0.mk (below_step HB.out hb); have BP2 := Aside0.mk (blk_below BP.out hb); have HO2 := Aside0.mk (Kd.R_below HO.out hb); clear HB BP HO; have HB := HB2; have BP := BP2; have HO := HO2; clear HB2 BP2 HO2; clear hb hr hqt hCt))
           first | go_ret2 | (rw [Exit.noGoto_ret]; go_ret2)
           exact ⟨_, rfl, Kd.R_nil _ _ _ _ _, HB.out⟩
          | true =>
           rw [if_pos rfl] at h
           have cm : out.length + tl.length < 4398046511104 := Decidable.byContradiction fun c => by rw [if_neg c] at h; cases h
           rw [if_pos cm] at h
           have CM := Aside0.mk cm
           have HA := Aside0.mk h
           clear cm h
           go_wp2_with (first | ((with_reducible refine gate_dst (N := 10) rfl ?_); refine box_event ?hg (N := 10) ?hd (cs := #[.int .u8 0, .int .i64 0, .string (⟨#[]⟩ : ByteArray), .string (⟨#[]⟩ : ByteArray), .int .i64 0, .int .u8 0, .string (⟨#[]⟩ : ByteArray)]) (t := 40) ?hr ?_; (case hd => rfl); (case hg => rfl); (case hr => exact qaz7); intro q hg w3 hbox hb; have HB2 := Aside0.mk (below_step HB.out hb); have BP2 := Aside0.mk (blk_below BP.out hb); have HO2 := Aside0.mk (Kd.R_below HO.out hb); have BQ := Aside0.mk hbox; have GQ : Aside0 (w.heap.size ≤ q) := ⟨by rw [hg]; exact below_size HB.out⟩; have NQ : Aside0 (p ≠ q) := ⟨by rw [hg]; exact Nat.ne_of_lt (blk_lt BP.out)⟩; have OQ : Aside0 (∀ k, (.slice A4 out.length q4 : Value).ownBlock = some k → k ≠ q) := ⟨fun k hk e => by have := Kd.R_lt HO.out k hk; omega⟩; clear HB BP HO; have HB := HB2; have BP := BP2; have HO := HO2; clear HB2 BP2 HO2; have z0 := bc0 hbox; have zf0 := blk_frozen hbox 0; have z1 := bc1 hbox; have zf1 := blk_frozen hbox 1; have z2 := bc2 hbox; have zf2 := blk_frozen hbox 2; have z3 := bc3 hbox; have zf3 := blk_frozen hbox 3; have z4 := bc4 hbox; have zf4 := blk_frozen hbox 4; have z5 := bc5 hbox; have zf5 := blk_frozen hbox 5; have z6 := bc6 hbox; have zf6 := blk_frozen hbox 6;  clear hb hbox hg) | ((with_reducible refine gate_store (t := 40) (p := 10) (v := .tmp 75) rfl ?_); refine store_event (t := 40) (p := 10) (v := .tmp 75) (w1 := (((((((w3.setCell ⟨q, 0, none⟩ (.int .u8 a0)).setCell ⟨q, 1, none⟩ (.int .i64 a1)).setCell ⟨q, 2, none⟩ (.string a2)).setCell ⟨q, 3, none⟩ (.string a3)).setCell ⟨q, 4, none⟩ (.int .i64 a4)).setCell ⟨q, 5, none⟩ (.int .u8 a5)).setCell ⟨q, 6, none⟩ (.string a6))) ?hg ?ho ?hn ?hr ?_; (case ho => rfl); (case hg => rfl); (case hn => rfl); (case hr => exact qaz7); intro w4 hw_; have BQ2 : Aside0 (w4.heap[q]? = some (.cells #[.int .u8 a0, .int .i64 a1, .string a2, .string a3, .int .i64 a4, .int .u8 a5, .string a6] 40 (0, 0))) := ⟨by rw [hw_]; exact toks_put7 BQ.out⟩; have BP2 : Aside0 (w4.heap[p]? = some (.cells #[.slice A0_0 l0_0.length c0_0, .string a0_1, .slice (some ad) l0_2.length c0_2] 25 (0, 0))) := ⟨by rw [hw_]; exact blk_far (blk_far (blk_far (blk_far (blk_far (blk_far (blk_far (BP.out) NQ.out _) NQ.out _) NQ.out _) NQ.out _) NQ.out _) NQ.out _) NQ.out _⟩; have HB2 : Aside0 (Below w.heap.size w w4) := ⟨by rw [hw_]; exact below_set (below_set (below_set (below_set (below_set (below_set (below_set (HB.out) GQ.out) GQ.out) GQ.out) GQ.out) GQ.out) GQ.out) GQ.out⟩; have HO2 : Aside0 (Kd.R k61 61 w4 w.heap.size (fun k => k ≠ p) (.slice A4 out.length q4) out) := ⟨by rw [hw_]; exact toks_far7 HO.out OQ.out⟩; clear hw_ HB BP HO BQ z0 zf0 z1 zf1 z2 zf2 z3 zf3 z4 zf4 z5 zf5 z6 zf6; have HB := HB2; have BP := BP2; have HO := HO2; have BQ := BQ2; clear HB2 BP2 HO2 BQ2; have z0 := bc0 BQ.out; have zf0 := blk_frozen BQ.out 0; have z1 := bc1 BQ.out; have zf1 := blk_frozen BQ.out 1; have z2 := bc2 BQ.out; have zf2 := blk_frozen BQ.out 2; have z3 := bc3 BQ.out; have zf3 := blk_frozen BQ.out 3; have z4 := bc4 BQ.out; have zf4 := blk_frozen BQ.out 4; have z5 := bc5 BQ.out; have zf5 := blk_frozen BQ.out 5; have z6 := bc6 BQ.out; have zf6 := blk_frozen BQ.out 6;  skip) | (go_at_call 34; have hT1 := Lib.tabBelow_of_tabIs HT.out _ HB.out; (with_reducible refine (line_told.calls k4 a0 a1 a2 a3 a4 a5 a6 tl _ _ hT1 (HD.out.below HB.out) (HM.out.below HB.out) (HG.out.below HB.out) HTD.out).mono ?_); clear hT1; rintro e w6 ⟨vt, rfl, hr, hb⟩; obtain ⟨At, qt, hvt, hqt, hCt⟩ := Kd.R_reads hr; subst hvt; have HTL := Aside0.mk hCt; have HB2 := Aside0.mk (below_step HB.out hb); have BP2 := Aside0.mk (blk_below BP.out hb); have HO2 := Aside0.mk (Kd.R_below HO.out hb); clear HB BP HO; have HB := HB2; have BP := BP2; have HO := HO2; clear HB2 BP2 HO2; clear hb hr hqt hCt) | ((with_reducible refine gate_builtin (b := .append) (xs := #[.tmp 89, .tmp 90]) rfl ?_); at_builtin; refine Kd.R_append_rows k61 (w0 := w) w.heap.size rfl (.tmp 89) (.tmp 90) 46 61 (.agg #[(.int .u8 0), (.string ⟨#[]⟩), (.int .i64 0)]) 32 rfl Tryz.underlying46 info61 rfl (by decide) (by omega) (.slice A4 out.length q4) out tl _ _ _ (fun k => k ≠ p) (fun _ => False) rfl rfl ?aO ?aR (fun _ _ h => h) (fun _ h => h.elim) ?aF ?aB ?aS ?aL ?_; (case aR => exact HTL.out); (case aF => exact qaz6); (case aO => exact HO.out); (case aB => exact HB.out); (case aS => exact below_size HB.out); (case aL => have := CM.out; omega); intro v16 w16 ho hb hg hat; have BP2 := Aside0.mk (blk_grown BP.out hg (fun e => HO.out.1 _ e.symm rfl)); have HO2 := Aside0.mk ho; have HB2 := Aside0.mk hb; clear HB BP HO; have HB := HB2; have BP := BP2; have HO := HO2; clear HB2 BP2 HO2 ho hb hg hat))
           try go_wp2
           go_roundg k4
           case measure => have := HK2.out; omega
           case rel => exact ⟨_, _, rfl, HA, ⟨by have := HK2.out; omega⟩, HO, BP, HB⟩
        ·
         rw [if_neg c4] at h
         have d4 : decide (i < (l0_2.length : Int)) = false := decide_eq_false c4
         cases h
         clear c4
         go_wp2
         go_ret2
         exact ⟨_, rfl, Kd.R_mono HO.out (fun _ _ => trivial), HB.out⟩

mutual
def quoinref17_Same.j0 : Nat → Bool → List ByteArray → ByteArray → List (S40) → List ByteArray → ByteArray → List (S40) → Option (Bool)
 | 0, _, _, _, _, _, _, _ => none
 | k + 1, x29, x538000, x538001, x538002, x539000, x539001, x539002 => if x29 = true then (some false) else (quoinref17_Same.l0 k 0 x538000 x538001 x538002 x539000 x539001 x539002)
def quoinref17_Same.l0 : Nat → Int → List ByteArray → ByteArray → List (S40) → List ByteArray → ByteArray → List (S40) → Option (Bool)
 | 0, _, _, _, _, _, _, _ => none
 | k + 1, x5, x538000, x538001, x538002, x539000, x539001, x539002 => if x5 < (x538000.length : Int) then (if 0 ≤ x5 then (if x5 < (x539000.length : Int) then (if (rdOf ByteArray.empty x538000 x5).toList = (rdOf ByteArray.empty x539000 x5).toList then (quoinref17_Same.l0 k (wrap64 (x5 + 1)) x538000 x538001 x538002 x539000 x539001 x539002) else (some false)) else (none)) else (none)) else (quoinref17_Same.l1 k 0 x538000 x538001 x538002 x539000 x539001 x539002)
def quoinref17_Same.l1 : Nat → Int → List ByteArray → ByteArray → List (S40) → List ByteArray → ByteArray → List (S40) → Option (Bool)
 | 0, _, _, _, _, _, _, _ => none
 | k + 1, x6, x538000, x538001, x538002, x539000, x539001, x539002 => if x6 < (x538002.length : Int) then (if 0 ≤ x6 then (if x6 < (x539002.length : Int) then (if (!(((rd_T40 x538002 x6).f0) == ((rd_T40 x539002 x6).f0)) || (!(((rd_T40 x538002 x6).f1) == ((rd_T40 x539002 x6).f1)) || ((!((((rd_T40 x538002 x6).f2.f0).toList) == (((rd_T40 x539002 x6).f2.f0).toList)) || (!((((rd_T40 x538002 x6).f2.f1).toList) == (((rd_T40 x539002 x6).f2.f1).toList)) || (!(((rd_T40 x538002 x6).f2.f2) == ((rd_T40 x539002 x6).f2.f2)) || (!(((rd_T40 x538002 x6).f2.f3) == ((rd_T40 x539002 x6).f2.f3)))))) || (!((((rd_T40 x538002 x6).f3).toList) == (((rd_T40 x539002 x6).f3).toList)))))) = true then (some false) else (quoinref17_Same.l1 k (wrap64 (x6 + 1)) x538000 x538001 x538002 x539000 x539001 x539002)) else (none)) else (none)) else (some true)
end
def quoinref17_Same.f (k : Nat) (l0_0 : List ByteArray) (a0_1 : ByteArray) (l0_2 : List (S40)) (l1_0 : List ByteArray) (a1_1 : ByteArray) (l1_2 : List (S40)) : Option (Bool) := if (l0_0.length : Int) = (l1_0.length : Int) then (if (l0_2.length : Int) = (l1_2.length : Int) then (quoinref17_Same.j0 k (a0_1.toList != a1_1.toList) l0_0 a0_1 l0_2 l1_0 a1_1 l1_2) else (quoinref17_Same.j0 k true l0_0 a0_1 l0_2 l1_0 a1_1 l1_2)) else (quoinref17_Same.j0 k true l0_0 a0_1 l0_2 l1_0 a1_1 l1_2)
set_option maxHeartbeats 8000000 in
set_option maxRecDepth 100000 in
theorem quoinref17_Same.calls (k : Nat) (A0_0 : Option Addr) (c0_0 : Nat) (l0_0 : List ByteArray) (a0_1 : ByteArray) (A0_2 : Option Addr) (c0_2 : Nat) (l0_2 : List (S40)) (A1_0 : Option Addr) (c1_0 : Nat) (l1_0 : List ByteArray) (a1_1 : ByteArray) (A1_2 : Option Addr) (c1_2 : Nat) (l1_2 : List (S40)) (r : Bool) (w : World) (hr0_0 : Kd.C Kd.string w A0_0 l0_0.length l0_0) (hc0_0 : l0_0.length ≤ c0_0) (hr0_2 : Kd.C k40 w A0_2 l0_2.length l0_2) (hc0_2 : l0_2.length ≤ c0_2) (hr1_0 : Kd.C Kd.string w A1_0 l1_0.length l1_0) (hc1_0 : l1_0.length ≤ c1_0) (hr1_2 : Kd.C k40 w A1_2 l1_2.length l1_2) (hc1_2 : l1_2.length ≤ c1_2) (h : quoinref17_Same.f k l0_0 a0_1 l0_2 l1_0 a1_1 l1_2 = some r) :
  Calls Tryz.prog 14 #[.agg #[.slice A0_0 l0_0.length c0_0, .string a0_1, .slice A0_2 l0_2.length c0_2], .agg #[.slice A1_0 l1_0.length c1_0, .string a1_1, .slice A1_2 l1_2.length c1_2]] w fun e w' => e = .returned (.bool r) ∧ Below w.heap.size w w' := by
 have hu25 := Tryz.underlying25
 have hu40 := Tryz.underlying40
 have HR0_0 := Aside0.mk hr0_0
 have HC0_0 := Aside0.mk hc0_0
 clear hr0_0 hc0_0
 have HR0_2 := Aside0.mk hr0_2
 have HC0_2 := Aside0.mk hc0_2
 clear hr0_2 hc0_2
 have HR1_0 := Aside0.mk hr1_0
 have HC1_0 := Aside0.mk hc1_0
 clear hr1_0 hc1_0
 have HR1_2 := Aside0.mk hr1_2
 have HC1_2 := Aside0.mk hc1_2
 clear hr1_2 hc1_2
 have HB := Aside0.mk (Below.refl w.heap.size w)
 have H : (if (l0_0.length : Int) = (l1_0.length : Int) then (if (l0_2.length : Int) = (l1_2.length : Int) then (quoinref17_Same.j0 k (a0_1.toList != a1_1.toList) l0_0 a0_1 l0_2 l1_0 a1_1 l1_2) else (quoinref17_Same.j0 k true l0_0 a0_1 l0_2 l1_0 a1_1 l1_2)) else (quoinref17_Same.j0 k true l0_0 a0_1 l0_2 l1_0 a1_1 l1_2)) = some r := h
 clear h
 have HC3 := Aside0.mk H
 clear H
 go_enter Tryz.func14, Tryz.ntmps14
 go_upto_region 1 with (first | ((with_reducible refine gate_dst (N := 2) rfl ?_); (try (refine gate_guard (by rfl) ?_; dsimp only)); refine box_event ?hg (N := 2) ?hd (cs := #[.slice A0_0 l0_0.length c0_0, .string a0_1, .slice A0_2 l0_2.length c0_2]) (t := 25) ?hr ?_; (case hd => rfl); (case hg => rfl); (case hr => exact qaz7); intro gb537 hg w4 hbox hb; have n0_ := Aside0.mk (below_step qaz1 hb); have n1_ := Aside0.mk (hbox); have n2_ := Aside0.mk ((by rw [hg]; exact (below_size qaz1) : w.heap.size ≤ gb537)); have n3_ := Aside0.mk ((by rw [hg]; exact (below_size qaz1) : w.heap.size ≤ gb537)); clear HB; have HB := n0_; have BK537 := n1_; have GW537 := n2_; have GE537 := n3_; clear n0_ n1_ n2_ n3_; clear hb hbox hg) | ((with_reducible refine gate_dst (N := 3) rfl ?_); (try (refine gate_guard (by rfl) ?_; dsimp only)); refine box_event ?hg (N := 3) ?hd (cs := #[.slice A1_0 l1_0.length c1_0, .string a1_1, .slice A1_2 l1_2.length c1_2]) (t := 25) ?hr ?_; (case hd => rfl); (case hg => rfl); (case hr => exact qaz7); intro gb538 hg w5 hbox hb; have n0_ := Aside0.mk (blk_below (g := gb537) (o := .cells #[.slice A0_0 l0_0.length c0_0, .string a0_1, .slice A0_2 l0_2.length c0_2] 25 (0, 0)) qaz2 hb); have n1_ := Aside0.mk (below_step qaz0 hb); have n2_ := Aside0.mk (hbox); have n3_ := Aside0.mk ((by rw [hg]; exact (below_size qaz0) : w.heap.size ≤ gb538)); have n4_ := Aside0.mk ((by rw [hg]; exact (below_size qaz0) : w.heap.size ≤ gb538)); have n5_ := Aside0.mk ((by rw [hg]; exact Nat.ne_of_lt (blk_lt (g := gb537) (o := .cells #[.slice A0_0 l0_0.length c0_0, .string a0_1, .slice A0_2 l0_2.length c0_2] 25 (0, 0)) qaz2) : gb537 ≠ gb538)); have n6_ := Aside0.mk ((by rw [hg]; exact Nat.ne_of_gt (blk_lt (g := gb537) (o := .cells #[.slice A0_0 l0_0.length c0_0, .string a0_1, .slice A0_2 l0_2.length c0_2] 25 (0, 0)) qaz2) : gb538 ≠ gb537)); clear BK537; clear HB; have BK537 := n0_; have HB := n1_; have BK538 := n2_; have GW538 := n3_; have GE538 := n4_; have NB537_538 := n5_; have NB538_537 := n6_; clear n0_ n1_ n2_ n3_ n4_ n5_ n6_; clear hb hbox hg))
 repeat (go_quiet (first | ((with_reducible refine gate_dst (N := 2) rfl ?_); (try (refine gate_guard (by rfl) ?_; dsimp only)); refine box_event ?hg (N := 2) ?hd (cs := #[.slice A0_0 l0_0.length c0_0, .string a0_1, .slice A0_2 l0_2.length c0_2]) (t := 25) ?hr ?_; (case hd => rfl); (case hg => rfl); (case hr => exact qaz7); intro gb537 hg w4 hbox hb; have n0_ := Aside0.mk (below_step qaz1 hb); have n1_ := Aside0.mk (hbox); have n2_ := Aside0.mk ((by rw [hg]; exact (below_size qaz1) : w.heap.size ≤ gb537)); have n3_ := Aside0.mk ((by rw [hg]; exact (below_size qaz1) : w.heap.size ≤ gb537)); clear HB; have HB := n0_; have BK537 := n1_; have GW537 := n2_; have GE537 := n3_; clear n0_ n1_ n2_ n3_; clear hb hbox hg) | ((with_reducible refine gate_dst (N := 3) rfl ?_); (try (refine gate_guard (by rfl) ?_; dsimp only)); refine box_event ?hg (N := 3) ?hd (cs := #[.slice A1_0 l1_0.length c1_0, .string a1_1, .slice A1_2 l1_2.length c1_2]) (t := 25) ?hr ?_; (case hd => rfl); (case hg => rfl); (case hr => exact qaz7); intro gb538 hg w5 hbox hb; have n0_ := Aside0.mk (blk_below (g := gb537) (o := .cells #[.slice A0_0 l0_0.length c0_0, .string a0_1, .slice A0_2 l0_2.length c0_2] 25 (0, 0)) qaz2 hb); have n1_ := Aside0.mk (below_step qaz0 hb); have n2_ := Aside0.mk (hbox); have n3_ := Aside0.mk ((by rw [hg]; exact (below_size qaz0) : w.heap.size ≤ gb538)); have n4_ := Aside0.mk ((by rw [hg]; exact (below_size qaz0) : w.heap.size ≤ gb538)); have n5_ := Aside0.mk ((by rw [hg]; exact Nat.ne_of_lt (blk_lt (g := gb537) (o := .cells #[.slice A0_0 l0_0.length c0_0, .string a0_1, .slice A0_2 l0_2.length c0_2] 25 (0, 0)) qaz2) : gb537 ≠ gb538)); have n6_ := Aside0.mk ((by rw [hg]; exact Nat.ne_of_gt (blk_lt (g := gb537) (o := .cells #[.slice A0_0 l0_0.length c0_0, .string a0_1, .slice A0_2 l0_2.length c0_2] 25 (0, 0)) qaz2) : gb538 ≠ gb537)); clear BK537; clear HB; have BK537 := n0_; have HB := n1_; have BK538 := n2_; have GW538 := n3_; have GE538 := n4_; have NB537_538 := n5_; have NB538_537 := n6_; clear n0_ n1_ n2_ n3_ n4_ n5_ n6_; clear hb hbox hg)); go_upto_region 1 with (first | ((with_reducible refine gate_dst (N := 2) rfl ?_); (try (refine gate_guard (by rfl) ?_; dsimp only)); refine box_event ?hg (N := 2) ?hd (cs := #[.slice A0_0 l0_0.length c0_0, .string a0_1, .slice A0_2 l0_2.length c0_2]) (t := 25) ?hr ?_; (case hd => rfl); (case hg => rfl); (case hr => exact qaz7); intro gb537 hg w4 hbox hb; have n0_ := Aside0.mk (below_step qaz1 hb); have n1_ := Aside0.mk (hbox); have n2_ := Aside0.mk ((by rw [hg]; exact (below_size qaz1) : w.heap.size ≤ gb537)); have n3_ := Aside0.mk ((by rw [hg]; exact (below_size qaz1) : w.heap.size ≤ gb537)); clear HB; have HB := n0_; have BK537 := n1_; have GW537 := n2_; have GE537 := n3_; clear n0_ n1_ n2_ n3_; clear hb hbox hg) | ((with_reducible refine gate_dst (N := 3) rfl ?_); (try (refine gate_guard (by rfl) ?_; dsimp only)); refine box_event ?hg (N := 3) ?hd (cs := #[.slice A1_0 l1_0.length c1_0, .string a1_1, .slice A1_2 l1_2.length c1_2]) (t := 25) ?hr ?_; (case hd => rfl); (case hg => rfl); (case hr => exact qaz7); intro gb538 hg w5 hbox hb; have n0_ := Aside0.mk (blk_below (g := gb537) (o := .cells #[.slice A0_0 l0_0.length c0_0, .string a0_1, .slice A0_2 l0_2.length c0_2] 25 (0, 0)) qaz2 hb); have n1_ := Aside0.mk (below_step qaz0 hb); have n2_ := Aside0.mk (hbox); have n3_ := Aside0.mk ((by rw [hg]; exact (below_size qaz0) : w.heap.size ≤ gb538)); have n4_ := Aside0.mk ((by rw [hg]; exact (below_size qaz0) : w.heap.size ≤ gb538)); have n5_ := Aside0.mk ((by rw [hg]; exact Nat.ne_of_lt (blk_lt (g := gb537) (o := .cells #[.slice A0_0 l0_0.length c0_0, .string a0_1, .slice A0_2 l0_2.length c0_2] 25 (0, 0)) qaz2) : gb537 ≠ gb538)); have n6_ := Aside0.mk ((by rw [hg]; exact Nat.ne_of_gt (blk_lt (g := gb537) (o := .cells #[.slice A0_0 l0_0.length c0_0, .string a0_1, .slice A0_2 l0_2.length c0_2] 25 (0, 0)) qaz2) : gb538 ≠ gb537)); clear BK537; clear HB; have BK537 := n0_; have HB := n1_; have BK538 := n2_; have GW538 := n3_; have GE538 := n4_; have NB537_538 := n5_; have NB538_537 := n6_; clear n0_ n1_ n2_ n3_ n4_ n5_ n6_; clear hb hbox hg)))
 (try simp only [Act.put, List.setIfInBounds_toArray, List.set_cons_zero, List.set_cons_succ])
 go_cut [29] (fun v29 wc => ∃ (kq : Nat) (x29_2 : Bool), v29 = .bool x29_2 ∧ Aside0 (quoinref17_Same.j0 kq x29_2 l0_0 a0_1 l0_2 l1_0 a1_1 l1_2 = some r) ∧ Aside0 (kq ≤ k) ∧ Aside0 (wc.heap[gb537]? = some (.cells #[(.slice A0_0 l0_0.length c0_0), .string a0_1, (.slice A0_2 l0_2.length c0_2)] 25 (0, 0))) ∧ Aside0 (wc.heap[gb538]? = some (.cells #[(.slice A1_0 l1_0.length c1_0), .string a1_1, (.slice A1_2 l1_2.length c1_2)] 25 (0, 0))) ∧ Aside0 (Below w.heap.size w wc))
 case first =>
  have H := HC3.out
  clear HC3
  by_cases c6 : (l0_0.length : Int) = (l1_0.length : Int)
  ·
   rw [if_pos c6] at H
   have c6b0 : ((l0_0.length : Int) == (l1_0.length : Int)) = true := beq_iff_eq.mpr c6
   have c6b1 : ((l0_0.length : Int) != (l1_0.length : Int)) = false := bne_eq_false_iff_eq.mpr c6
   have c6b2 : (l0_0.length == l1_0.length) = true := by first | simpa using c6 | (simp at c6 ⊢; omega)
   clear c6
   (first | rw [c6b0] | (simp only [i64_w, i32_w]; rw [c6b0]) | skip)
   by_cases c7 : (l0_2.length : Int) = (l1_2.length : Int)
   ·
    rw [if_pos c7] at H
    have c7b0 : ((l0_2.length : Int) == (l1_2.length : Int)) = true := beq_iff_eq.mpr c7
    have c7b1 : ((l0_2.length : Int) != (l1_2.length : Int)) = false := bne_eq_false_iff_eq.mpr c7
    have c7b2 : (l0_2.length == l1_2.length) = true := by first | simpa using c7 | (simp at c7 ⊢; omega)
    clear c7
    have H' := Aside0.mk H
    clear H
    have hnb8 := NB537_538.out
    have hnc8 := NB538_537.out
    have hcz9_0 := bc0 BK537.out
    have hcz9_1 := bc1 BK537.out
    have hcz9_2 := bc2 BK537.out
    have hfz9_0 := blk_frozen BK537.out 0
    have hfz9_1 := blk_frozen BK537.out 1
    have hfz9_2 := blk_frozen BK537.out 2
    have hcz10_0 := bc0 BK538.out
    have hcz10_1 := bc1 BK538.out
    have hcz10_2 := bc2 BK538.out
    have hfz10_0 := blk_frozen BK538.out 0
    have hfz10_1 := blk_frozen BK538.out 1
    have hfz10_2 := blk_frozen BK538.out 2
    go_wp2
    repeat (go_quiet (fail); try go_wp2)
    go_meet
    case rel => exact ⟨_, ((a0_1.toList != a1_1.toList)), qaz5, H', ⟨by first | omega | exact Nat.le_refl _⟩, ⟨by (with_reducible repeat (first | refine blk_drewN ?_ _ | refine blk_drew ?_ | refine blk_alloc ?_ _)); exact BK537.out⟩, ⟨by (with_reducible repeat (first | refine blk_drewN ?_ _ | refine blk_drew ?_ | refine blk_alloc ?_ _)); exact BK538.out⟩, ⟨by repeat (first | (with_reducible first | exact HB.out | apply below_alloc | apply pw_below_drewN | apply below_drew1 | refine below_set ?_ GE537.out | refine below_set ?_ GE538.out) | exact HB.out)⟩⟩
   ·
    rw [if_neg c7] at H
    have c7b0 : ((l0_2.length : Int) == (l1_2.length : Int)) = false := beq_eq_false_iff_ne.mpr c7
    have c7b1 : ((l0_2.length : Int) != (l1_2.length : Int)) = true := bne_iff_ne.mpr c7
    have c7b2 : (l0_2.length == l1_2.length) = false := by first | simpa using c7 | (simp at c7 ⊢; omega)
    have H' := Aside0.mk H
    clear H
    have hnb11 := NB537_538.out
    have hnc11 := NB538_537.out
    have hcz12_0 := bc0 BK537.out
    have hcz12_1 := bc1 BK537.out
    have hcz12_2 := bc2 BK537.out
    have hfz12_0 := blk_frozen BK537.out 0
    have hfz12_1 := blk_frozen BK537.out 1
    have hfz12_2 := blk_frozen BK537.out 2
    have hcz13_0 := bc0 BK538.out
    have hcz13_1 := bc1 BK538.out
    have hcz13_2 := bc2 BK538.out
    have hfz13_0 := blk_frozen BK538.out 0
    have hfz13_1 := blk_frozen BK538.out 1
    have hfz13_2 := blk_frozen BK538.out 2
    go_wp2
    repeat (go_quiet (fail); try go_wp2)
    go_meet
    case rel => exact ⟨_, (true), qaz5, H', ⟨by first | omega | exact Nat.le_refl _⟩, ⟨by (with_reducible repeat (first | refine blk_drewN ?_ _ | refine blk_drew ?_ | refine blk_alloc ?_ _)); exact BK537.out⟩, ⟨by (with_reducible repeat (first | refine blk_drewN ?_ _ | refine blk_drew ?_ | refine blk_alloc ?_ _)); exact BK538.out⟩, ⟨by repeat (first | (with_reducible first | exact HB.out | apply below_alloc | apply pw_below_drewN | apply below_drew1 | refine below_set ?_ GE537.out | refine below_set ?_ GE538.out) | exact HB.out)⟩⟩
  ·
   rw [if_neg c6] at H
   have c6b0 : ((l0_0.length : Int) == (l1_0.length : Int)) = false := beq_eq_false_iff_ne.mpr c6
   have c6b1 : ((l0_0.length : Int) != (l1_0.length : Int)) = true := bne_iff_ne.mpr c6
   have c6b2 : (l0_0.length == l1_0.length) = false := by first | simpa using c6 | (simp at c6 ⊢; omega)
   (first | rw [c6b0] | (simp only [i64_w, i32_w]; rw [c6b0]) | skip)
   have H' := Aside0.mk H
   clear H
   have hnb14 := NB537_538.out
   have hnc14 := NB538_537.out
   have hcz15_0 := bc0 BK537.out
   have hcz15_1 := bc1 BK537.out
   have hcz15_2 := bc2 BK537.out
   have hfz15_0 := blk_frozen BK537.out 0
   have hfz15_1 := blk_frozen BK537.out 1
   have hfz15_2 := blk_frozen BK537.out 2
   have hcz16_0 := bc0 BK538.out
   have hcz16_1 := bc1 BK538.out
   have hcz16_2 := bc2 BK538.out
   have hfz16_0 := blk_frozen BK538.out 0
   have hfz16_1 := blk_frozen BK538.out 1
   have hfz16_2 := blk_frozen BK538.out 2
   go_wp2
   repeat (go_quiet (fail); try go_wp2)
   go_meet
   case rel => exact ⟨_, (true), qaz5, H', ⟨by first | omega | exact Nat.le_refl _⟩, ⟨by (with_reducible repeat (first | refine blk_drewN ?_ _ | refine blk_drew ?_ | refine blk_alloc ?_ _)); exact BK537.out⟩, ⟨by (with_reducible repeat (first | refine blk_drewN ?_ _ | refine blk_drew ?_ | refine blk_alloc ?_ _)); exact BK538.out⟩, ⟨by repeat (first | (with_reducible first | exact HB.out | apply below_alloc | apply pw_below_drewN | apply below_drew1 | refine below_set ?_ GE537.out | refine below_set ?_ GE538.out) | exact HB.out)⟩⟩
 case rest =>
  clear HC3
  try clear c1
  try clear p2
  try clear c6
  try clear c6b0
  try clear c6b1
  try clear c6b2
  try clear c7
  try clear c7b0
  try clear c7b1
  try clear c7b2
  try clear c8
  try clear c11
  try clear c14
  try clear hcz10_0
  try clear hcz10_1
  try clear hcz10_2
  try clear hcz12_0
  try clear hcz12_1
  try clear hcz12_2
  try clear hcz13_0
  try clear hcz13_1
  try clear hcz13_2
  try clear hcz15_0
  try clear hcz15_1
  try clear hcz15_2
  try clear hcz16_0
  try clear hcz16_1
  try clear hcz16_2
  try clear hcz9_0
  try clear hcz9_1
  try clear hcz9_2
  try clear hfz10_0
  try clear hfz10_1
  try clear hfz10_2
  try clear hfz12_0
  try clear hfz12_1
  try clear hfz12_2
  try clear hfz13_0
  try clear hfz13_1
  try clear hfz13_2
  try clear hfz15_0
  try clear hfz15_1
  try clear hfz15_2
  try clear hfz16_0
  try clear hfz16_1
  try clear hfz16_2
  try clear hfz9_0
  try clear hfz9_1
  try clear hfz9_2
  obtain ⟨kq, x29_2, rfl, HA, HJ2, BK537, BK538, HB⟩ := hcut
  cases kq with
  | zero => exact absurd HA.out (by simp [quoinref17_Same.j0])
  | succ kj2 =>
   have H := HA.out
   clear HA
   simp only [quoinref17_Same.j0] at H
   by_cases c17 : x29_2 = true
   ·
    subst c17
    have H1 : (some false) = some r := by rw [if_pos rfl] at H; exact H
    clear H
    have H := H1
    clear H1
    obtain rfl := Option.some.inj H
    go_wp2
    repeat (go_quiet (fail); try go_wp2)
    go_ret
    exact ⟨by first | rfl | (simp [errW_none, errW_some] <;> rfl) | (simp [*, errW_none, errW_some] <;> rfl), by repeat (first | (with_reducible first | exact HB.out | apply below_alloc | apply pw_below_drewN | apply below_drew1 | refine below_set ?_ GE537.out | refine below_set ?_ GE538.out) | exact HB.out)⟩
   ·
    replace c17 := Bool.eq_false_iff.mpr c17
    subst c17
    have H1 : (quoinref17_Same.l0 kj2 0 l0_0 a0_1 l0_2 l1_0 a1_1 l1_2) = some r := by rw [if_neg (show ¬ (false = true) by decide)] at H; exact H
    clear H
    have H := H1
    clear H1
    have H' := Aside0.mk H
    clear H
    go_wp2
    repeat (go_quiet (fail); try go_wp2)
    go_loopg [5] kj2 (fun kq v5 w' => ∃ (x5_2 : Int), v5 = .int .i64 x5_2 ∧ Aside0 (quoinref17_Same.l0 kq x5_2 l0_0 a0_1 l0_2 l1_0 a1_1 l1_2 = some r) ∧ Aside0 (kq ≤ kj2) ∧ Aside0 (w'.heap[gb537]? = some (.cells #[(.slice A0_0 l0_0.length c0_0), .string a0_1, (.slice A0_2 l0_2.length c0_2)] 25 (0, 0))) ∧ Aside0 (w'.heap[gb538]? = some (.cells #[(.slice A1_0 l1_0.length c1_0), .string a1_1, (.slice A1_2 l1_2.length c1_2)] 25 (0, 0))) ∧ Aside0 (Below w.heap.size w w'))
    case atStart => exact ⟨(0), qaz5, H', ⟨Nat.le_refl _⟩, ⟨by (with_reducible repeat (first | refine blk_drewN ?_ _ | refine blk_drew ?_ | refine blk_alloc ?_ _)); exact BK537.out⟩, ⟨by (with_reducible repeat (first | refine blk_drewN ?_ _ | refine blk_drew ?_ | refine blk_alloc ?_ _)); exact BK538.out⟩, ⟨by repeat (first | (with_reducible first | exact HB.out | apply below_alloc | apply pw_below_drewN | apply below_drew1 | refine below_set ?_ GE537.out | refine below_set ?_ GE538.out) | exact HB.out)⟩⟩
    case round =>
     clear H'
     try clear c1
     try clear p2
     try clear c6
     try clear c6b0
     try clear c6b1
     try clear c6b2
     try clear c7
     try clear c7b0
     try clear c7b1
     try clear c7b2
     try clear c8
     try clear c11
     try clear c14
     try clear c17
     try clear hcz10_0
     try clear hcz10_1
     try clear hcz10_2
     try clear hcz12_0
     try clear hcz12_1
     try clear hcz12_2
     try clear hcz13_0
     try clear hcz13_1
     try clear hcz13_2
     try clear hcz15_0
     try clear hcz15_1
     try clear hcz15_2
     try clear hcz16_0
     try clear hcz16_1
     try clear hcz16_2
     try clear hcz9_0
     try clear hcz9_1
     try clear hcz9_2
     try clear hfz10_0
     try clear hfz10_1
     try clear hfz10_2
     try clear hfz12_0
     try clear hfz12_1
     try clear hfz12_2
     try clear hfz13_0
     try clear hfz13_1
     try clear hfz13_2
     try clear hfz15_0
     try clear hfz15_1
     try clear hfz15_2
     try clear hfz16_0
     try clear hfz16_1
     try clear hfz16_2
     try clear hfz9_0
     try clear hfz9_1
     try clear hfz9_2
     try clear p2
     obtain ⟨x5_2, rfl, HA, HK2, BK537, BK538, HB⟩ := hrel
     cases gk with
     | zero => exact absurd HA.out (by simp [quoinref17_Same.l0])
     | succ k2 =>
      have H := HA.out
      clear HA
      simp only [quoinref17_Same.l0] at H
      by_cases c18 : x5_2 < (l0_0.length : Int)
      ·
       rw [if_pos c18] at H
       have c18b0 : decide (x5_2 < (l0_0.length : Int)) = true := decide_eq_true c18
       clear c18
       by_cases c19 : 0 ≤ x5_2
       ·
        rw [if_pos c19] at H
        have c19b0 : decide (0 ≤ x5_2) = true := decide_eq_true c19
        clear c19
        by_cases c20 : x5_2 < (l1_0.length : Int)
        ·
         rw [if_pos c20] at H
         have c20b0 : decide (x5_2 < (l1_0.length : Int)) = true := decide_eq_true c20
         clear c20
         by_cases c21 : (rdOf ByteArray.empty l0_0 x5_2).toList = (rdOf ByteArray.empty l1_0 x5_2).toList
         ·
          rw [if_pos c21] at H
          have c21b0 : ((rdOf ByteArray.empty l0_0 x5_2).toList == (rdOf ByteArray.empty l1_0 x5_2).toList) = true := beq_iff_eq.mpr c21
          have c21b1 : ((rdOf ByteArray.empty l0_0 x5_2).toList != (rdOf ByteArray.empty l1_0 x5_2).toList) = false := bne_eq_false_iff_eq.mpr c21
          clear c21
          have H' := Aside0.mk H
          clear H
          have hnb22 := NB537_538.out
          have hnc22 := NB538_537.out
          have hcz23_0 := bc0 BK537.out
          have hcz23_1 := bc1 BK537.out
          have hcz23_2 := bc2 BK537.out
          have hfz23_0 := blk_frozen BK537.out 0
          have hfz23_1 := blk_frozen BK537.out 1
          have hfz23_2 := blk_frozen BK537.out 2
          have p539 : 0 ≤ (x5_2 : Int) := of_decide_eq_true qaz4
          have q539 : x5_2 < (l0_0.length : Int) := of_decide_eq_true qaz4
          obtain ⟨ad539, e539, hx539_0⟩ := Kd.at_string HR0_0.out x5_2 p539 q539
          cases e539
          replace hx539_0 := (HB.out.cell (World.block_lt_of_cell? w _ hx539_0)).trans hx539_0
          replace p539 := eq_true p539
          replace q539 := eq_true q539
          have hcz24_0 := bc0 BK538.out
          have hcz24_1 := bc1 BK538.out
          have hcz24_2 := bc2 BK538.out
          have hfz24_0 := blk_frozen BK538.out 0
          have hfz24_1 := blk_frozen BK538.out 1
          have hfz24_2 := blk_frozen BK538.out 2
          have p540 : 0 ≤ (x5_2 : Int) := of_decide_eq_true qaz4
          have q540 : x5_2 < (l1_0.length : Int) := of_decide_eq_true qaz4
          obtain ⟨ad540, e540, hx540_0⟩ := Kd.at_string HR1_0.out x5_2 p540 q540
          cases e540
          replace hx540_0 := (HB.out.cell (World.block_lt_of_cell? w _ hx540_0)).trans hx540_0
          replace p540 := eq_true p540
          replace q540 := eq_true q540
          go_wp2
          repeat (go_quiet (fail); try go_wp2)
          go_roundg k2
          case measure => have := HJ2.out; have := HK2.out; omega
          case rel => exact ⟨(wrap64 (x5_2 + 1)), qaz5, H', ⟨by have := HJ2.out; have := HK2.out; omega⟩, ⟨by (with_reducible repeat (first | refine blk_drewN ?_ _ | refine blk_drew ?_ | refine blk_alloc ?_ _)); exact BK537.out⟩, ⟨by (with_reducible repeat (first | refine blk_drewN ?_ _ | refine blk_drew ?_ | refine blk_alloc ?_ _)); exact BK538.out⟩, ⟨by repeat (first | (with_reducible first | exact HB.out | apply below_alloc | apply pw_below_drewN | apply below_drew1 | refine below_set ?_ GE537.out | refine below_set ?_ GE538.out) | exact HB.out)⟩⟩
         ·
          rw [if_neg c21] at H
          have c21b0 : ((rdOf ByteArray.empty l0_0 x5_2).toList == (rdOf ByteArray.empty l1_0 x5_2).toList) = false := beq_eq_false_iff_ne.mpr c21
          have c21b1 : ((rdOf ByteArray.empty l0_0 x5_2).toList != (rdOf ByteArray.empty l1_0 x5_2).toList) = true := bne_iff_ne.mpr c21
          obtain rfl := Option.some.inj H
          have hnb25 := NB537_538.out
          have hnc25 := NB538_537.out
          have hcz26_0 := bc0 BK537.out
          have hcz26_1 := bc1 BK537.out
          have hcz26_2 := bc2 BK537.out
          have hfz26_0 := blk_frozen BK537.out 0
          have hfz26_1 := blk_frozen BK537.out 1
          have hfz26_2 := blk_frozen BK537.out 2
          have p539 : 0 ≤ (x5_2 : Int) := of_decide_eq_true qaz4
          have q539 : x5_2 < (l0_0.length : Int) := of_decide_eq_true qaz4
          obtain ⟨ad539, e539, hx539_0⟩ := Kd.at_string HR0_0.out x5_2 p539 q539
          cases e539
          replace hx539_0 := (HB.out.cell (World.block_lt_of_cell? w _ hx539_0)).trans hx539_0
          replace p539 := eq_true p539
          replace q539 := eq_true q539
          have hcz27_0 := bc0 BK538.out
          have hcz27_1 := bc1 BK538.out
          have hcz27_2 := bc2 BK538.out
          have hfz27_0 := blk_frozen BK538.out 0
          have hfz27_1 := blk_frozen BK538.out 1
          have hfz27_2 := blk_frozen BK538.out 2
          have p540 : 0 ≤ (x5_2 : Int) := of_decide_eq_true qaz4
          have q540 : x5_2 < (l1_0.length : Int) := of_decide_eq_true qaz4
          obtain ⟨ad540, e540, hx540_0⟩ := Kd.at_string HR1_0.out x5_2 p540 q540
          cases e540
          replace hx540_0 := (HB.out.cell (World.block_lt_of_cell? w _ hx540_0)).trans hx540_0
          replace p540 := eq_true p540
          replace q540 := eq_true q540
          go_wp2
          repeat (go_quiet (fail); try go_wp2)
          go_ret
          exact ⟨by first | rfl | (simp [errW_none, errW_some] <;> rfl) | (simp [*, errW_none, errW_some] <;> rfl), by repeat (first | (with_reducible first | exact HB.out | apply below_alloc | apply pw_below_drewN | apply below_drew1 | refine below_set ?_ GE537.out | refine below_set ?_ GE538.out) | exact HB.out)⟩
        ·
         rw [if_neg c20] at H
         exact absurd H (by simp)
       ·
        rw [if_neg c19] at H
        exact absurd H (by simp)
      ·
       rw [if_neg c18] at H
       have c18b0 : decide (x5_2 < (l0_0.length : Int)) = false := decide_eq_false c18
       clear c18
       have H' := Aside0.mk H
       clear H
       have hnb28 := NB537_538.out
       have hnc28 := NB538_537.out
       have hcz29_0 := bc0 BK537.out
       have hcz29_1 := bc1 BK537.out
       have hcz29_2 := bc2 BK537.out
       have hfz29_0 := blk_frozen BK537.out 0
       have hfz29_1 := blk_frozen BK537.out 1
       have hfz29_2 := blk_frozen BK537.out 2
       go_wp2
       repeat (go_quiet (fail); try go_wp2)
       go_loopg [6] k2 (fun kq v6 w' => ∃ (x6_3 : Int), v6 = .int .i64 x6_3 ∧ Aside0 (quoinref17_Same.l1 kq x6_3 l0_0 a0_1 l0_2 l1_0 a1_1 l1_2 = some r) ∧ Aside0 (kq ≤ k2) ∧ Aside0 (w'.heap[gb537]? = some (.cells #[(.slice A0_0 l0_0.length c0_0), .string a0_1, (.slice A0_2 l0_2.length c0_2)] 25 (0, 0))) ∧ Aside0 (w'.heap[gb538]? = some (.cells #[(.slice A1_0 l1_0.length c1_0), .string a1_1, (.slice A1_2 l1_2.length c1_2)] 25 (0, 0))) ∧ Aside0 (Below w.heap.size w w'))
       case atStart => exact ⟨(0), qaz5, H', ⟨Nat.le_refl _⟩, ⟨by (with_reducible repeat (first | refine blk_drewN ?_ _ | refine blk_drew ?_ | refine blk_alloc ?_ _)); exact BK537.out⟩, ⟨by (with_reducible repeat (first | refine blk_drewN ?_ _ | refine blk_drew ?_ | refine blk_alloc ?_ _)); exact BK538.out⟩, ⟨by repeat (first | (with_reducible first | exact HB.out | apply below_alloc | apply pw_below_drewN | apply below_drew1 | refine below_set ?_ GE537.out | refine below_set ?_ GE538.out) | exact HB.out)⟩⟩
       case round =>
        clear H'
        try clear c1
        try clear c2
        try clear p2
        try clear p5
        try clear q5
        try clear hx5
        try clear c6
        try clear c6b0
        try clear c6b1
        try clear c6b2
        try clear p6
        try clear c7
        try clear c7b0
        try clear c7b1
        try clear c7b2
        try clear c8
        try clear c11
        try clear c14
        try clear c17
        try clear c18
        try clear c18b0
        try clear c19
        try clear c19b0
        try clear c20
        try clear c20b0
        try clear c21
        try clear c21b0
        try clear c21b1
        try clear c22
        try clear c25
        try clear c28
        try clear hcz10_0
        try clear hcz10_1
        try clear hcz10_2
        try clear hcz12_0
        try clear hcz12_1
        try clear hcz12_2
        try clear hcz13_0
        try clear hcz13_1
        try clear hcz13_2
        try clear hcz15_0
        try clear hcz15_1
        try clear hcz15_2
        try clear hcz16_0
        try clear hcz16_1
        try clear hcz16_2
        try clear hcz23_0
        try clear hcz23_1
        try clear hcz23_2
        try clear hcz24_0
        try clear hcz24_1
        try clear hcz24_2
        try clear hcz26_0
        try clear hcz26_1
        try clear hcz26_2
        try clear hcz27_0
        try clear hcz27_1
        try clear hcz27_2
        try clear hcz29_0
        try clear hcz29_1
        try clear hcz29_2
        try clear hcz9_0
        try clear hcz9_1
        try clear hcz9_2
        try clear hfz10_0
        try clear hfz10_1
        try clear hfz10_2
        try clear hfz12_0
        try clear hfz12_1
        try clear hfz12_2
        try clear hfz13_0
        try clear hfz13_1
        try clear hfz13_2
        try clear hfz15_0
        try clear hfz15_1
        try clear hfz15_2
        try clear hfz16_0
        try clear hfz16_1
        try clear hfz16_2
        try clear hfz23_0
        try clear hfz23_1
        try clear hfz23_2
        try clear hfz24_0
        try clear hfz24_1
        try clear hfz24_2
        try clear hfz26_0
        try clear hfz26_1
        try clear hfz26_2
        try clear hfz27_0
        try clear hfz27_1
        try clear hfz27_2
        try clear hfz29_0
        try clear hfz29_1
        try clear hfz29_2
        try clear hfz9_0
        try clear hfz9_1
        try clear hfz9_2
        try clear hx539_0
        try clear hx540_0
        try clear p2
        try clear p539
        try clear p540
        try clear q539
        try clear q540
        obtain ⟨x6_3, rfl, HA, HK3, BK537, BK538, HB⟩ := hrel
        cases gk with
        | zero => exact absurd HA.out (by simp [quoinref17_Same.l1])
        | succ k3 =>
         have H := HA.out
         clear HA
         simp only [quoinref17_Same.l1] at H
         by_cases c30 : x6_3 < (l0_2.length : Int)
         ·
          rw [if_pos c30] at H
          have c30b0 : decide (x6_3 < (l0_2.length : Int)) = true := decide_eq_true c30
          clear c30
          by_cases c31 : 0 ≤ x6_3
          ·
           rw [if_pos c31] at H
           have c31b0 : decide (0 ≤ x6_3) = true := decide_eq_true c31
           clear c31
           by_cases c32 : x6_3 < (l1_2.length : Int)
           ·
            rw [if_pos c32] at H
            have c32b0 : decide (x6_3 < (l1_2.length : Int)) = true := decide_eq_true c32
            clear c32
            by_cases c33 : (!(((rd_T40 l0_2 x6_3).f0) == ((rd_T40 l1_2 x6_3).f0)) || (!(((rd_T40 l0_2 x6_3).f1) == ((rd_T40 l1_2 x6_3).f1)) || ((!((((rd_T40 l0_2 x6_3).f2.f0).toList) == (((rd_T40 l1_2 x6_3).f2.f0).toList)) || (!((((rd_T40 l0_2 x6_3).f2.f1).toList) == (((rd_T40 l1_2 x6_3).f2.f1).toList)) || (!(((rd_T40 l0_2 x6_3).f2.f2) == ((rd_T40 l1_2 x6_3).f2.f2)) || (!(((rd_T40 l0_2 x6_3).f2.f3) == ((rd_T40 l1_2 x6_3).f2.f3)))))) || (!((((rd_T40 l0_2 x6_3).f3).toList) == (((rd_T40 l1_2 x6_3).f3).toList)))))) = true
            ·
             rw [if_pos c33] at H
             have c33b0 : (!(((rd_T40 l0_2 x6_3).f0) == ((rd_T40 l1_2 x6_3).f0)) || (!(((rd_T40 l0_2 x6_3).f1) == ((rd_T40 l1_2 x6_3).f1)) || ((!((((rd_T40 l0_2 x6_3).f2.f0).toList) == (((rd_T40 l1_2 x6_3).f2.f0).toList)) || (!((((rd_T40 l0_2 x6_3).f2.f1).toList) == (((rd_T40 l1_2 x6_3).f2.f1).toList)) || (!(((rd_T40 l0_2 x6_3).f2.f2) == ((rd_T40 l1_2 x6_3).f2.f2)) || (!(((rd_T40 l0_2 x6_3).f2.f3) == ((rd_T40 l1_2 x6_3).f2.f3)))))) || (!((((rd_T40 l0_2 x6_3).f3).toList) == (((rd_T40 l1_2 x6_3).f3).toList)))))) = true := c33
             clear c33
             obtain rfl := Option.some.inj H
             have hnb34 := NB537_538.out
             have hnc34 := NB538_537.out
             have hcz35_0 := bc0 BK537.out
             have hcz35_1 := bc1 BK537.out
             have hcz35_2 := bc2 BK537.out
             have hfz35_0 := blk_frozen BK537.out 0
             have hfz35_1 := blk_frozen BK537.out 1
             have hfz35_2 := blk_frozen BK537.out 2
             have p541 : 0 ≤ (x6_3 : Int) := of_decide_eq_true qaz4
             have q541 : x6_3 < (l0_2.length : Int) := of_decide_eq_true qaz4
             obtain ⟨ad541, e541, hx541_0, hx541_1, hx541_2, hx541_3, hx541_4, hx541_5, hx541_6⟩ := at_T40 HR0_2.out x6_3 p541 q541
             cases e541
             replace hx541_0 := (HB.out.cell (World.block_lt_of_cell? w _ hx541_0)).trans hx541_0
             replace hx541_1 := (HB.out.cell (World.block_lt_of_cell? w _ hx541_1)).trans hx541_1
             replace hx541_2 := (HB.out.cell (World.block_lt_of_cell? w _ hx541_2)).trans hx541_2
             replace hx541_3 := (HB.out.cell (World.block_lt_of_cell? w _ hx541_3)).trans hx541_3
             replace hx541_4 := (HB.out.cell (World.block_lt_of_cell? w _ hx541_4)).trans hx541_4
             replace hx541_5 := (HB.out.cell (World.block_lt_of_cell? w _ hx541_5)).trans hx541_5
             replace hx541_6 := (HB.out.cell (World.block_lt_of_cell? w _ hx541_6)).trans hx541_6
             replace p541 := eq_true p541
             replace q541 := eq_true q541
             have hcz36_0 := bc0 BK538.out
             have hcz36_1 := bc1 BK538.out
             have hcz36_2 := bc2 BK538.out
             have hfz36_0 := blk_frozen BK538.out 0
             have hfz36_1 := blk_frozen BK538.out 1
             have hfz36_2 := blk_frozen BK538.out 2
             have p542 : 0 ≤ (x6_3 : Int) := of_decide_eq_true qaz4
             have q542 : x6_3 < (l1_2.length : Int) := of_decide_eq_true qaz4
             obtain ⟨ad542, e542, hx542_0, hx542_1, hx542_2, hx542_3, hx542_4, hx542_5, hx542_6⟩ := at_T40 HR1_2.out x6_3 p542 q542
             cases e542
             replace hx542_0 := (HB.out.cell (World.block_lt_of_cell? w _ hx542_0)).trans hx542_0
             replace hx542_1 := (HB.out.cell (World.block_lt_of_cell? w _ hx542_1)).trans hx542_1
             replace hx542_2 := (HB.out.cell (World.block_lt_of_cell? w _ hx542_2)).trans hx542_2
             replace hx542_3 := (HB.out.cell (World.block_lt_of_cell? w _ hx542_3)).trans hx542_3
             replace hx542_4 := (HB.out.cell (World.block_lt_of_cell? w _ hx542_4)).trans hx542_4
             replace hx542_5 := (HB.out.cell (World.block_lt_of_cell? w _ hx542_5)).trans hx542_5
             replace hx542_6 := (HB.out.cell (World.block_lt_of_cell? w _ hx542_6)).trans hx542_6
             replace p542 := eq_true p542
             replace q542 := eq_true q542
             go_wp2
             repeat (go_quiet (fail); try go_wp2)
             go_ret
             exact ⟨by first | rfl | (simp [errW_none, errW_some] <;> rfl) | (simp [*, errW_none, errW_some] <;> rfl), by repeat (first | (with_reducible first | exact HB.out | apply below_alloc | apply pw_below_drewN | apply below_drew1 | refine below_set ?_ GE537.out | refine below_set ?_ GE538.out) | exact HB.out)⟩
            ·
             rw [if_neg c33] at H
             have c33b0 : (!(((rd_T40 l0_2 x6_3).f0) == ((rd_T40 l1_2 x6_3).f0)) || (!(((rd_T40 l0_2 x6_3).f1) == ((rd_T40 l1_2 x6_3).f1)) || ((!((((rd_T40 l0_2 x6_3).f2.f0).toList) == (((rd_T40 l1_2 x6_3).f2.f0).toList)) || (!((((rd_T40 l0_2 x6_3).f2.f1).toList) == (((rd_T40 l1_2 x6_3).f2.f1).toList)) || (!(((rd_T40 l0_2 x6_3).f2.f2) == ((rd_T40 l1_2 x6_3).f2.f2)) || (!(((rd_T40 l0_2 x6_3).f2.f3) == ((rd_T40 l1_2 x6_3).f2.f3)))))) || (!((((rd_T40 l0_2 x6_3).f3).toList) == (((rd_T40 l1_2 x6_3).f3).toList)))))) = false := by simpa using c33
             clear c33
             have H' := Aside0.mk H
             clear H
             have hnb37 := NB537_538.out
             have hnc37 := NB538_537.out
             have hcz38_0 := bc0 BK537.out
             have hcz38_1 := bc1 BK537.out
             have hcz38_2 := bc2 BK537.out
             have hfz38_0 := blk_frozen BK537.out 0
             have hfz38_1 := blk_frozen BK537.out 1
             have hfz38_2 := blk_frozen BK537.out 2
             have p541 : 0 ≤ (x6_3 : Int) := of_decide_eq_true qaz4
             have q541 : x6_3 < (l0_2.length : Int) := of_decide_eq_true qaz4
             obtain ⟨ad541, e541, hx541_0, hx541_1, hx541_2, hx541_3, hx541_4, hx541_5, hx541_6⟩ := at_T40 HR0_2.out x6_3 p541 q541
             cases e541
             replace hx541_0 := (HB.out.cell (World.block_lt_of_cell? w _ hx541_0)).trans hx541_0
             replace hx541_1 := (HB.out.cell (World.block_lt_of_cell? w _ hx541_1)).trans hx541_1
             replace hx541_2 := (HB.out.cell (World.block_lt_of_cell? w _ hx541_2)).trans hx541_2
             replace hx541_3 := (HB.out.cell (World.block_lt_of_cell? w _ hx541_3)).trans hx541_3
             replace hx541_4 := (HB.out.cell (World.block_lt_of_cell? w _ hx541_4)).trans hx541_4
             replace hx541_5 := (HB.out.cell (World.block_lt_of_cell? w _ hx541_5)).trans hx541_5
             replace hx541_6 := (HB.out.cell (World.block_lt_of_cell? w _ hx541_6)).trans hx541_6
             replace p541 := eq_true p541
             replace q541 := eq_true q541
             have hcz39_0 := bc0 BK538.out
             have hcz39_1 := bc1 BK538.out
             have hcz39_2 := bc2 BK538.out
             have hfz39_0 := blk_frozen BK538.out 0
             have hfz39_1 := blk_frozen BK538.out 1
             have hfz39_2 := blk_frozen BK538.out 2
             have p542 : 0 ≤ (x6_3 : Int) := of_decide_eq_true qaz4
             have q542 : x6_3 < (l1_2.length : Int) := of_decide_eq_true qaz4
             obtain ⟨ad542, e542, hx542_0, hx542_1, hx542_2, hx542_3, hx542_4, hx542_5, hx542_6⟩ := at_T40 HR1_2.out x6_3 p542 q542
             cases e542
             replace hx542_0 := (HB.out.cell (World.block_lt_of_cell? w _ hx542_0)).trans hx542_0
             replace hx542_1 := (HB.out.cell (World.block_lt_of_cell? w _ hx542_1)).trans hx542_1
             replace hx542_2 := (HB.out.cell (World.block_lt_of_cell? w _ hx542_2)).trans hx542_2
             replace hx542_3 := (HB.out.cell (World.block_lt_of_cell? w _ hx542_3)).trans hx542_3
             replace hx542_4 := (HB.out.cell (World.block_lt_of_cell? w _ hx542_4)).trans hx542_4
             replace hx542_5 := (HB.out.cell (World.block_lt_of_cell? w _ hx542_5)).trans hx542_5
             replace hx542_6 := (HB.out.cell (World.block_lt_of_cell? w _ hx542_6)).trans hx542_6
             replace p542 := eq_true p542
             replace q542 := eq_true q542
             go_wp2
             repeat (go_quiet (fail); try go_wp2)
             go_roundg k3
             case measure => have := HJ2.out; have := HK2.out; have := HK3.out; omega
             case rel => exact ⟨(wrap64 (x6_3 + 1)), qaz5, H', ⟨by have := HJ2.out; have := HK2.out; have := HK3.out; omega⟩, ⟨by (with_reducible repeat (first | refine blk_drewN ?_ _ | refine blk_drew ?_ | refine blk_alloc ?_ _)); exact BK537.out⟩, ⟨by (with_reducible repeat (first | refine blk_drewN ?_ _ | refine blk_drew ?_ | refine blk_alloc ?_ _)); exact BK538.out⟩, ⟨by repeat (first | (with_reducible first | exact HB.out | apply below_alloc | apply pw_below_drewN | apply below_drew1 | refine below_set ?_ GE537.out | refine below_set ?_ GE538.out) | exact HB.out)⟩⟩
           ·
            rw [if_neg c32] at H
            exact absurd H (by simp)
          ·
           rw [if_neg c31] at H
           exact absurd H (by simp)
         ·
          rw [if_neg c30] at H
          have c30b0 : decide (x6_3 < (l0_2.length : Int)) = false := decide_eq_false c30
          clear c30
          obtain rfl := Option.some.inj H
          have hnb40 := NB537_538.out
          have hnc40 := NB538_537.out
          have hcz41_0 := bc0 BK537.out
          have hcz41_1 := bc1 BK537.out
          have hcz41_2 := bc2 BK537.out
          have hfz41_0 := blk_frozen BK537.out 0
          have hfz41_1 := blk_frozen BK537.out 1
          have hfz41_2 := blk_frozen BK537.out 2
          go_wp2
          repeat (go_quiet (fail); try go_wp2)
          go_ret
          exact ⟨by first | rfl | (simp [errW_none, errW_some] <;> rfl) | (simp [*, errW_none, errW_some] <;> rfl), by repeat (first | (with_reducible first | exact HB.out | apply below_alloc | apply pw_below_drewN | apply below_drew1 | refine below_set ?_ GE537.out | refine below_set ?_ GE538.out) | exact HB.out)⟩

end Go.Proofs.YtbfndlfemhidaaaGreatDoor.P
