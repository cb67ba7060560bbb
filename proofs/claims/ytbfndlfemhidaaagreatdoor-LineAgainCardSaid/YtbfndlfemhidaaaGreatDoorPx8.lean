/- Texts of this seat in one (Px8), what nothing speaks of left out: by pack.py, a program of this session. -/
import Derived.Test.YtbfndlfemhidaaaGreatDoorPx0
import Derived.Test.YtbfndlfemhidaaaGreatDoorPx1
import Derived.Test.YtbfndlfemhidaaaGreatDoorPx3
import Derived.Test.YtbfndlfemhidaaaGreatDoorPx7
namespace Go.Proofs.YtbfndlfemhidaaaGreatDoor.P
open Go.RowKit Go.Proofs.YtbfndlfemhidaaaGreatDoor.LexP Go.Proofs.YtbfndlfemhidaaaGreatDoorW.PrintWords Go.Proofs.YtbfndlfemhidaaaGreatDoorW.PrintLast Go.Proofs.YtbfndlfemhidaaaGreatDoorW.PrintMore
theorem qba24 {P : Prop} (h : P := by first | (go_simp; done) | (go_simp; rfl)) : P := h
theorem qba23 {P : Prop} (h : P := by first | rfl | (simp; done) | (simp [*]; done)) : P := h
theorem qba22 {P : Prop} (h : P := by first | (with_reducible assumption) | assumption) : P := h
theorem qba21 {P : Prop} (h : P := by (with_reducible repeat (first | apply Kd.R_alloc | apply Kd.R_drewN | apply Kd.R_drew)); exact HO_4.out) : P := h
theorem qba20 {P : Prop} (h : P := by (with_reducible repeat (first | refine blk_drewN ?_ _ | refine blk_drew ?_ | refine blk_alloc ?_ _)); exact BK533.out) : P := h
theorem qba19 {P : Prop} (h : P := by (with_reducible repeat (first | refine blk_drewN ?_ _ | refine blk_drew ?_ | refine blk_alloc ?_ _)); exact BK257.out) : P := h
theorem qba18 {P : Prop} (h : P := by repeat (first | (with_reducible first | exact HB.out | apply below_alloc | apply pw_below_drewN | apply below_drew1) | exact HB.out)) : P := h
theorem qba17 {P : Prop} (h : P := by (try simp only [List.map_toArray, List.map_cons, List.map_nil]); first | done | rfl | (simp only [List.length_drop, List.length_take]; rfl)) : P := h
theorem qba16 {P : Prop} (h : P := by repeat (first | (with_reducible first | exact HB.out | apply below_alloc | apply pw_below_drewN | apply below_drew1 | refine below_set ?_ GE533.out) | exact HB.out)) : P := h
theorem qba15 {P : Prop} (h : P := by repeat (first | (with_reducible first | exact HB.out | apply below_alloc | apply pw_below_drewN | apply below_drew1 | refine below_set ?_ GE257.out) | exact HB.out)) : P := h
theorem qba14 {P : Prop} (h : P := by repeat (first | (with_reducible first | exact HB.out | apply below_alloc | apply pw_below_drewN | apply below_drew1 | refine below_set ?_ GE250.out) | exact HB.out)) : P := h
theorem qba13 {P : Prop} (h : P := by repeat (first | exact (Kd.R_reads' HO_4.out).2.2 | (with_reducible refine Kd.C_alloc ?_ _) | (with_reducible refine Kd.C_drewN ?_ _) | (with_reducible refine Kd.C_drew ?_))) : P := h
theorem qba12 {P : Prop} (h : P := by repeat (first | exact (Kd.C_below HR1_0.out HB.out) | (with_reducible refine Kd.C_alloc ?_ _) | (with_reducible refine Kd.C_drewN ?_ _) | (with_reducible refine Kd.C_drew ?_))) : P := h
theorem qba11 {P : Prop} (h : P := by repeat (first | exact (Kd.C_below HR0_2.out HB.out) | (with_reducible refine Kd.C_alloc ?_ _) | (with_reducible refine Kd.C_drewN ?_ _) | (with_reducible refine Kd.C_drew ?_))) : P := h
theorem qba10 {P : Prop} (h : P := by repeat (first | exact (Kd.C_below HR0_0.out HB.out) | (with_reducible refine Kd.C_alloc ?_ _) | (with_reducible refine Kd.C_drewN ?_ _) | (with_reducible refine Kd.C_drew ?_))) : P := h
theorem qba9 {P : Prop} (h : P := by exact HM_.out.below qba15) : P := h
theorem qba8 {P : Prop} (h : P := by exact HG_.out.below qba15) : P := h
theorem qba7 {P : Prop} (h : P := by exact HE_.out.below qba15) : P := h
theorem qba6 {P : Prop} (h : P := by exact HD_.out.below qba15) : P := h
theorem qba5 {P : Prop} (h : P := by exact HD_.out.below qba14) : P := h
theorem qba4 {P : Prop} (h : P := by repeat (first | (with_reducible first | exact HB.out | apply below_alloc | apply pw_below_drewN | apply below_drew1 | refine below_set ?_ GE533.out | refine below_set ?_ GE534.out) | exact HB.out)) : P := h
theorem qba3 {P : Prop} (h : P := by exact Lib.tabBelow_of_tabIs HT.out _ qba15) : P := h
theorem qba2 {P : Prop} (h : P := by exact Lib.tabBelow_of_tabIs HT.out _ qba14) : P := h
theorem qba1 {P : Prop} (h : P := by (with_reducible repeat (first | apply Kd.R_alloc | apply Kd.R_drewN | apply Kd.R_drew)); exact (Kd.R_mono (Kd.R_far (p := ⟨gb250, 2, none⟩) (Kd.R_far (p := ⟨gb250, 1, none⟩) (Kd.R_far (p := ⟨gb250, 0, none⟩) (Kd.R_types HO_4.out BK250.out (by decide)) (fun _ hk => hk.2) (.int .u8 ((rd_T61 l0 x15_1).f0))) (fun _ hk => hk.2) (.string ((rd_T61 l0 x15_1).f1))) (fun _ hk => hk.2) (.int .i64 ((rd_T61 l0 x15_1).f2))) (fun _ h_ => h_.1))) : P := h
theorem qba0 {P : Prop} (h : P := by (with_reducible repeat (first | refine blk_drewN ?_ _ | refine blk_drew ?_ | refine blk_alloc ?_ _)); refine blk_put (cs := #[.int .u8 ((rd_T61 l0 x15_1).f0), .string ((rd_T61 l0 x15_1).f1), .int .i64 0]) ?_ 2 _ rfl; (with_reducible repeat (first | refine blk_drewN ?_ _ | refine blk_drew ?_ | refine blk_alloc ?_ _)); refine blk_put (cs := #[.int .u8 ((rd_T61 l0 x15_1).f0), .string (⟨#[]⟩ : ByteArray), .int .i64 0]) ?_ 1 _ rfl; (with_reducible repeat (first | refine blk_drewN ?_ _ | refine blk_drew ?_ | refine blk_alloc ?_ _)); refine blk_put (cs := #[.int .u8 0, .string (⟨#[]⟩ : ByteArray), .int .i64 0]) ?_ 0 _ rfl; (with_reducible repeat (first | refine blk_drewN ?_ _ | refine blk_drew ?_ | refine blk_alloc ?_ _)); exact BK250.out) : P := h
attribute [local go_sem] max2_int min2_int max_two min_two max_three min_three max_four min_four   -- for this text's walks alone
set_option linter.unusedVariables false
set_option linter.unusedSimpArgs false

attribute [local go_sem high] eqA40

def strings_Join.f (l0 : List ByteArray) (a1 : ByteArray) : Option ByteArray := if l0.length ≤ 1000000 ∧ (Lib.join (l0.map (·.data.toList)) a1.data.toList).length ≤ 140737488355328 then some ⟨(Lib.join (l0.map (·.data.toList)) a1.data.toList).toArray⟩ else none
theorem strings_Join.calls (A0 : Option Addr) (c0 : Nat) (l0 : List ByteArray) (a1 : ByteArray) (r : ByteArray) (w : World) (hr0 : Kd.C Kd.string w A0 l0.length l0) (hc0 : l0.length ≤ c0) (h : strings_Join.f l0 a1 = some r) :
  Calls Tryz.prog 36 #[.slice A0 l0.length c0, .string a1] w fun e w' => e = .returned (.string r) ∧ Below w.heap.size w w' := by
 unfold strings_Join.f at h
 by_cases c : l0.length ≤ 1000000 ∧ (Lib.join (l0.map (·.data.toList)) a1.data.toList).length ≤ 140737488355328
 ·
  rw [if_pos c] at h
  rw [← Option.some.inj h]
  cases l0 with
  | nil => exact (Tryz.strings_Join_none A0 c0 a1 w).mono fun e w' ⟨he, hw⟩ => ⟨he, hw ▸ Below.refl _ _⟩
  | cons x l =>
   obtain ⟨ad, rfl, h0⟩ := Kd.at_string hr0 0 (by omega) (by simp)
   have hs : ad.spot = none := by
    cases hx : ad.spot with
    | none => rfl
    | some q =>
     exfalso
     simp only [Int.toNat_zero, Addr.add, if_pos] at h0
     unfold World.cell? at h0
     rw [hx] at h0
     split at h0 <;> simp at h0
   obtain ⟨bk, o, sp⟩ := ad
   obtain rfl : sp = none := hs
   have hc : ∀ (j : Nat) y, (x :: l)[j]? = some y → w.cell? ⟨bk, o + j, none⟩ = some (.string y) := by
    intro j y hj
    have hlt : j < (x :: l).length := by
     rcases Nat.lt_or_ge j (x :: l).length with h | h
     ·
      exact h
     ·
      rw [List.getElem?_eq_none h] at hj
      cases hj
    obtain ⟨ad', e, hcell⟩ := Kd.at_string hr0 (j : Int) (by omega) (by omega)
    obtain rfl := Option.some.inj e
    have e1 : (⟨bk, o, none⟩ : Addr).add ((j : Int)).toNat = ⟨bk, o + j, none⟩ := by
     unfold Addr.add
     split
     ·
      rename_i h
      simp at h
      subst h
      rfl
     ·
      rfl
    rw [e1] at hcell
    rw [hcell]
    simp [rdOf, List.getD, hj]
   have hl : bk < w.heap.size := World.block_lt_of_cell? w _ (hc 0 x rfl)
   exact Tryz.strings_Join bk o c0 (x :: l) a1 w hc hl (by omega) hc0 c.2
 ·
  rw [if_neg c] at h
  cases h

def lex_Write.l0 : Nat → List ByteArray → List (S61) → Int → Int → Option (ByteArray × Int)
 | 0, _, _, _, _ => none
 | k + 1, x4, x13, x14, x15 => if x15 < x14 then (if 0 ≤ x15 then (if x15 < (x13.length : Int) then ((lex_text.f k ((rd_T61 x13 x15).f0) ((rd_T61 x13 x15).f1) ((rd_T61 x13 x15).f2)).bind fun bt251 => (if bt251.2 = true then (if x4.length < 8796093022208 then (lex_Write.l0 k (x4 ++ [bt251.1]) x13 x14 (wrap64 (x15 + 1))) else (none)) else (some ((⟨#[]⟩ : ByteArray), 8)))) else (none)) else (none)) else ((strings_Join.f x4 (⟨#[32]⟩ : ByteArray)).bind fun t256 => (if (t256.size : Int) > 256 then (some ((⟨#[]⟩ : ByteArray), 3)) else (some (t256, 0))))
def lex_Write.f (k : Nat) (l0 : List (S61)) : Option (ByteArray × Int) := if (l0.length : Int) > 64 then (some ((⟨#[]⟩ : ByteArray), 4)) else (lex_Write.l0 k ([] : List ByteArray) l0 (l0.length : Int) 0)
set_option maxHeartbeats 8000000 in
set_option maxRecDepth 100000 in
theorem lex_Write.calls (k : Nat) (A0 : Option Addr) (c0 : Nat) (l0 : List (S61)) (r1 : ByteArray) (r2 : Int) (w : World) (hr0 : Kd.C k61 w A0 l0.length l0) (hc0 : l0.length ≤ c0) (hT : Lib.TabIs Tryz.prog w "internal/strconv.uint64pow10" .u64 Lib.pow10Tab) (hD : LexW.LexD w) (h : lex_Write.f k l0 = some (r1, r2)) :
  Calls Tryz.prog 20 #[.slice A0 l0.length c0] w fun e w' => e = .returned (.tuple #[.string r1, .int .i64 r2]) ∧ Below w.heap.size w w' := by
 have hu61 := Tryz.underlying61
 have HR0 := Aside0.mk hr0
 have HC0 := Aside0.mk hc0
 clear hr0 hc0
 have HT := Aside0.mk hT
 clear hT
 have HD_ := Aside0.mk hD
 clear hD
 have HB := Aside0.mk (Below.refl w.heap.size w)
 have H : (if (l0.length : Int) > 64 then (some ((⟨#[]⟩ : ByteArray), 4)) else (lex_Write.l0 k ([] : List ByteArray) l0 (l0.length : Int) 0)) = some (r1, r2) := h
 clear h
 by_cases c2 : (l0.length : Int) > 64
 ·
  rw [if_pos c2] at H
  have c2b0 : decide (64 < (l0.length : Int)) = true := decide_eq_true c2
  have c2b1 : decide (64 < l0.length) = true := decide_eq_true (by omega)
  clear c2
  simp only [Option.some.injEq, Prod.mk.injEq] at H
  obtain ⟨rfl, rfl⟩ := H
  go_enter Tryz.func20, Tryz.ntmps20
  go_wp2
  go_ret2
  exact ⟨by first | rfl | (simp [errW_none, errW_some] <;> rfl) | (simp [*, errW_none, errW_some] <;> rfl), by repeat (first | (with_reducible first | exact HB.out | apply below_alloc | apply pw_below_drewN | apply below_drew1) | exact HB.out)⟩
 ·
  rw [if_neg c2] at H
  have c2b0 : decide (64 < (l0.length : Int)) = false := decide_eq_false c2
  have c2b1 : decide (64 < l0.length) = false := decide_eq_false (by omega)
  clear c2
  have H' := Aside0.mk H
  clear H
  go_enter Tryz.func20, Tryz.ntmps20
  go_wp2
  go_loopg [4, 15] k (fun kq v4 v15 w' => ∃ (x4_1 : List ByteArray) (x15_1 : Int), v15 = .int .i64 x15_1 ∧ Aside0 (lex_Write.l0 kq x4_1 l0 (l0.length : Int) x15_1 = some (r1, r2)) ∧ Aside0 (kq ≤ k) ∧ Aside0 (Kd.R Kd.string 9 w' w.heap.size (fun _ => True) v4 x4_1) ∧ Aside0 (Below w.heap.size w w'))
  case atStart => exact ⟨(([] : List ByteArray)), (0), qba23, H', ⟨Nat.le_refl _⟩, ⟨by first | exact Kd.R_nil _ _ _ _ _ | exact Kd.N_nil _ _ _ _ _ | exact Kd.V_nil _ _ _ _ _ | exact Kd.Q_nil _ _ _ _ _ | exact Kd.S_nil _ _ _ _ _⟩, ⟨by repeat (first | (with_reducible first | exact HB.out | apply below_alloc | apply pw_below_drewN | apply below_drew1) | exact HB.out)⟩⟩
  case round =>
   clear H'
   try clear c2
   try clear c2b0
   try clear c2b1
   try clear p2
   obtain ⟨x4_1, x15_1, rfl, HA, HK1, HO_4, HB⟩ := hrel
   cases gk with
   | zero => exact absurd HA.out (by simp [lex_Write.l0])
   | succ k1 =>
    have H := HA.out
    clear HA
    simp only [lex_Write.l0] at H
    by_cases c3 : x15_1 < (l0.length : Int)
    ·
     rw [if_pos c3] at H
     have c3b0 : decide (x15_1 < (l0.length : Int)) = true := decide_eq_true c3
     clear c3
     by_cases c4 : 0 ≤ x15_1
     ·
      rw [if_pos c4] at H
      have c4b0 : decide (0 ≤ x15_1) = true := decide_eq_true c4
      clear c4
      by_cases c5 : x15_1 < (l0.length : Int)
      ·
       rw [if_pos c5] at H
       have c5b0 : decide (x15_1 < (l0.length : Int)) = true := decide_eq_true c5
       clear c5
       replace H := Option.bind_eq_some_iff.mp H
       obtain ⟨⟨t251, t252⟩, A60, H⟩ := H
       replace H : (if t252 = true then (if x4_1.length < 8796093022208 then (lex_Write.l0 k1 (x4_1 ++ [t251]) l0 (l0.length : Int) (wrap64 (x15_1 + 1))) else (none)) else (some ((⟨#[]⟩ : ByteArray), 8))) = some (r1, r2) := H
       have A6 := Aside0.mk A60
       clear A60
       by_cases c7 : t252 = true
       ·
        subst c7
        have H1 : (if x4_1.length < 8796093022208 then (lex_Write.l0 k1 (x4_1 ++ [t251]) l0 (l0.length : Int) (wrap64 (x15_1 + 1))) else (none)) = some (r1, r2) := by rw [if_pos rfl] at H; exact H
        clear H
        have H := H1
        clear H1
        by_cases c8 : x4_1.length < 8796093022208
        ·
         rw [if_pos c8] at H
         have LMc8 := Aside0.mk c8
         clear c8
         obtain ⟨y253, hy253⟩ : ∃ y_ : List ByteArray, y_ = (x4_1 ++ [t251]) := ⟨_, rfl⟩
         replace H : (lex_Write.l0 k1 y253 l0 (l0.length : Int) (wrap64 (x15_1 + 1))) = some (r1, r2) := by first | (rw [hy253]; with_reducible exact H) | (have H2_ := (Option.bind_some _ _).symm.trans H; rw [hy253]; with_reducible exact H2_) | (have H2_ := (Option.bind_some _ _).symm.trans H; with_reducible exact H2_) | with_reducible exact H | (rw [hy253]; exact H) | exact H
         have Ny253 := Aside0.mk hy253
         clear hy253
         have H' := Aside0.mk H
         clear H
         have p249 : 0 ≤ (x15_1 : Int) := of_decide_eq_true qba22
         have q249 : x15_1 < (l0.length : Int) := of_decide_eq_true qba22
         obtain ⟨ad249, e249, hx249_0, hx249_1, hx249_2⟩ := at_T61 HR0.out x15_1 p249 q249
         cases e249
         replace hx249_0 := (HB.out.cell (World.block_lt_of_cell? w _ hx249_0)).trans hx249_0
         replace hx249_1 := (HB.out.cell (World.block_lt_of_cell? w _ hx249_1)).trans hx249_1
         replace hx249_2 := (HB.out.cell (World.block_lt_of_cell? w _ hx249_2)).trans hx249_2
         replace p249 := eq_true p249
         replace q249 := eq_true q249
         go_wp2_with (first | ((with_reducible refine gate_dst (N := 6) rfl ?_); refine box_event ?hg (N := 6) ?hd (cs := #[.int .u8 0, .string (⟨#[]⟩ : ByteArray), .int .i64 0]) (t := 61) ?hr ?_; (case hd => rfl); (case hg => rfl); (case hr => exact qba24); intro gb250 hg w9 hbox hb; have n0_ := Aside0.mk (Kd.R_below qba21 hb); have n1_ := Aside0.mk (below_step qba18 hb); have n2_ := Aside0.mk (hbox); have n3_ := Aside0.mk ((by rw [hg]; exact (below_size qba18) : w.heap.size ≤ gb250)); have n4_ := Aside0.mk ((by rw [hg]; exact (below_size qba18) : w.heap.size ≤ gb250)); clear HO_4; clear HB; have HO_4 := n0_; have HB := n1_; have BK250 := n2_; have GW250 := n3_; have GE250 := n4_; clear n0_ n1_ n2_ n3_ n4_; clear hb hbox hg; have hcz10_0 := bc0 BK250.out; have hcz10_1 := bc1 BK250.out; have hcz10_2 := bc2 BK250.out; have hfz10_0 := blk_frozen BK250.out 0; have hfz10_1 := blk_frozen BK250.out 1; have hfz10_2 := blk_frozen BK250.out 2) | ((with_reducible refine gate_callee (f := 35) rfl ?_); refine goesL_ (some 21) rfl rfl Tryz.func35 (by kernel_rfl) rfl #[.agg #[.int .u8 ((rd_T61 l0 x15_1).f0), .string ((rd_T61 l0 x15_1).f1), .int .i64 ((rd_T61 l0 x15_1).f2)]] rfl qba17 ?_; (with_reducible refine (lex_text.calls k1 ((rd_T61 l0 x15_1).f0) ((rd_T61 l0 x15_1).f1) ((rd_T61 l0 x15_1).f2) t251 true _ ?side1 ?side2 A6.out).mono ?_); (case side1 => exact qba2); (case side2 => exact qba5); rintro e w11 ⟨rfl, hb⟩; refine ⟨_, rfl, ?_⟩; have n0_ := Aside0.mk (Kd.R_below qba1 hb); have n1_ := Aside0.mk (blk_below (g := gb250) (o := .cells #[.int .u8 ((rd_T61 l0 x15_1).f0), .string ((rd_T61 l0 x15_1).f1), .int .i64 ((rd_T61 l0 x15_1).f2)] 61 (0, 0)) qba0 hb); have n2_ := Aside0.mk (below_step qba14 hb); clear HO_4; clear BK250; clear HB; have HO_4 := n0_; have BK250 := n1_; have HB := n2_; clear n0_ n1_ n2_; (try clear hb); (try clear hb2); (try clear hk); (try clear hi)) | ((with_reducible refine gate_builtin (b := .append) (xs := #[.tmp 26, .tmp 28]) rfl ?_); at_builtin; refine Kd.R_append Kd.string (w0 := w) w.heap.size rfl (.tmp 26) (.tmp 28) 22 9 (.string ⟨#[]⟩) 16 rfl Tryz.underlying22 info9 rfl (by decide) (by omega) u4 x4_1 t251 [.string t251] (fun _ => True) (fun _ => False) rfl rfl ?aP (fun _ hk => hk.elim) ?aF ?aO ?aB ?aS ?aL ?_; (case aP => exact rfl); (case aB => exact qba14); (case aF => exact (fun _ _ => trivial)); (case aO => exact qba21); (case aS => exact (below_size qba14)); (case aL => have := LMc8.out; omega); intro v254 w12 ho hb hg hat; rw [← Ny253.out] at ho; have n0_ := Aside0.mk (blk_grown (g := gb250) (o := .cells #[.int .u8 ((rd_T61 l0 x15_1).f0), .string ((rd_T61 l0 x15_1).f1), .int .i64 ((rd_T61 l0 x15_1).f2)] 61 (0, 0)) (by (with_reducible repeat (first | refine blk_drewN ?_ _ | refine blk_drew ?_ | refine blk_alloc ?_ _)); exact BK250.out) hg (Kd.R_ne HO_4.out BK250.out (by decide))); have n1_ := Aside0.mk (hb); have n2_ := Aside0.mk (ho); clear BK250; clear HB; clear HO_4; have BK250 := n0_; have HB := n1_; have HO255 := n2_; clear n0_ n1_ n2_; clear ho hb hg hat))
         go_roundg k1
         case measure => have := HK1.out; omega
         case rel => exact ⟨(y253), (wrap64 (x15_1 + 1)), qba23, H', ⟨by have := HK1.out; omega⟩, ⟨by (with_reducible repeat (first | apply Kd.R_alloc | apply Kd.R_drewN | apply Kd.R_drew)); exact HO255.out⟩, ⟨by repeat (first | (with_reducible first | exact HB.out | apply below_alloc | apply pw_below_drewN | apply below_drew1 | refine below_set ?_ GE250.out) | exact HB.out)⟩⟩
        ·
         rw [if_neg c8] at H
         exact absurd H (by simp)
       ·
        replace c7 := Bool.eq_false_iff.mpr c7
        subst c7
        have H1 : (some ((⟨#[]⟩ : ByteArray), 8)) = some (r1, r2) := by rw [if_neg (show ¬ (false = true) by decide)] at H; exact H
        clear H
        have H := H1
        clear H1
        simp only [Option.some.injEq, Prod.mk.injEq] at H
        obtain ⟨rfl, rfl⟩ := H
        have p249 : 0 ≤ (x15_1 : Int) := of_decide_eq_true qba22
        have q249 : x15_1 < (l0.length : Int) := of_decide_eq_true qba22
        obtain ⟨ad249, e249, hx249_0, hx249_1, hx249_2⟩ := at_T61 HR0.out x15_1 p249 q249
        cases e249
        replace hx249_0 := (HB.out.cell (World.block_lt_of_cell? w _ hx249_0)).trans hx249_0
        replace hx249_1 := (HB.out.cell (World.block_lt_of_cell? w _ hx249_1)).trans hx249_1
        replace hx249_2 := (HB.out.cell (World.block_lt_of_cell? w _ hx249_2)).trans hx249_2
        replace p249 := eq_true p249
        replace q249 := eq_true q249
        go_wp2_with (first | ((with_reducible refine gate_dst (N := 6) rfl ?_); refine box_event ?hg (N := 6) ?hd (cs := #[.int .u8 0, .string (⟨#[]⟩ : ByteArray), .int .i64 0]) (t := 61) ?hr ?_; (case hd => rfl); (case hg => rfl); (case hr => exact qba24); intro gb250 hg w13 hbox hb; have n0_ := Aside0.mk (Kd.R_below qba21 hb); have n1_ := Aside0.mk (below_step qba18 hb); have n2_ := Aside0.mk (hbox); have n3_ := Aside0.mk ((by rw [hg]; exact (below_size qba18) : w.heap.size ≤ gb250)); have n4_ := Aside0.mk ((by rw [hg]; exact (below_size qba18) : w.heap.size ≤ gb250)); clear HO_4; clear HB; have HO_4 := n0_; have HB := n1_; have BK250 := n2_; have GW250 := n3_; have GE250 := n4_; clear n0_ n1_ n2_ n3_ n4_; clear hb hbox hg; have hcz14_0 := bc0 BK250.out; have hcz14_1 := bc1 BK250.out; have hcz14_2 := bc2 BK250.out; have hfz14_0 := blk_frozen BK250.out 0; have hfz14_1 := blk_frozen BK250.out 1; have hfz14_2 := blk_frozen BK250.out 2) | ((with_reducible refine gate_callee (f := 35) rfl ?_); refine goesL_ (some 21) rfl rfl Tryz.func35 (by kernel_rfl) rfl #[.agg #[.int .u8 ((rd_T61 l0 x15_1).f0), .string ((rd_T61 l0 x15_1).f1), .int .i64 ((rd_T61 l0 x15_1).f2)]] rfl qba17 ?_; (with_reducible refine (lex_text.calls k1 ((rd_T61 l0 x15_1).f0) ((rd_T61 l0 x15_1).f1) ((rd_T61 l0 x15_1).f2) t251 false _ ?side1 ?side2 A6.out).mono ?_); (case side1 => exact qba2); (case side2 => exact qba5); rintro e w15 ⟨rfl, hb⟩; refine ⟨_, rfl, ?_⟩; have n0_ := Aside0.mk (Kd.R_below qba1 hb); have n1_ := Aside0.mk (blk_below (g := gb250) (o := .cells #[.int .u8 ((rd_T61 l0 x15_1).f0), .string ((rd_T61 l0 x15_1).f1), .int .i64 ((rd_T61 l0 x15_1).f2)] 61 (0, 0)) qba0 hb); have n2_ := Aside0.mk (below_step qba14 hb); clear HO_4; clear BK250; clear HB; have HO_4 := n0_; have BK250 := n1_; have HB := n2_; clear n0_ n1_ n2_; (try clear hb); (try clear hb2); (try clear hk); (try clear hi)))
        go_ret2
        exact ⟨by first | rfl | (simp [errW_none, errW_some] <;> rfl) | (simp [*, errW_none, errW_some] <;> rfl), by repeat (first | (with_reducible first | exact HB.out | apply below_alloc | apply pw_below_drewN | apply below_drew1 | refine below_set ?_ GE250.out) | exact HB.out)⟩
      ·
       rw [if_neg c5] at H
       exact absurd H (by simp)
     ·
      rw [if_neg c4] at H
      exact absurd H (by simp)
    ·
     rw [if_neg c3] at H
     have c3b0 : decide (x15_1 < (l0.length : Int)) = false := decide_eq_false c3
     clear c3
     replace H := Option.bind_eq_some_iff.mp H
     obtain ⟨t256, A160, H⟩ := H
     replace H : (if (t256.size : Int) > 256 then (some ((⟨#[]⟩ : ByteArray), 3)) else (some (t256, 0))) = some (r1, r2) := H
     have A16 := Aside0.mk A160
     clear A160
     by_cases c17 : (t256.size : Int) > 256
     ·
      rw [if_pos c17] at H
      have c17b0 : decide (256 < (t256.size : Int)) = true := decide_eq_true c17
      have c17b1 : decide (256 < t256.size) = true := decide_eq_true (by omega)
      clear c17
      simp only [Option.some.injEq, Prod.mk.injEq] at H
      obtain ⟨rfl, rfl⟩ := H
      obtain ⟨Ao18, co18, eo18⟩ := Kd.R_slice HO_4.out
      subst eo18
      go_wp2_with (first | ((with_reducible refine gate_callee (f := 36) rfl ?_); refine goesL_ (some 32) rfl rfl Tryz.func36 (by kernel_rfl) rfl #[.slice Ao18 x4_1.length co18, .string (⟨#[32]⟩ : ByteArray)] rfl qba17 ?_; (with_reducible refine (strings_Join.calls _ _ x4_1 (⟨#[32]⟩ : ByteArray) t256 _ ?side1 ?side2 A16.out).mono ?_); (case side1 => exact qba13); (case side2 => exact (Kd.R_reads' HO_4.out).2.1); rintro e w19 ⟨rfl, hb⟩; refine ⟨_, rfl, ?_⟩; have n0_ := Aside0.mk (Kd.R_below qba21 hb); have n1_ := Aside0.mk (below_step qba18 hb); clear HO_4; clear HB; have HO_4 := n0_; have HB := n1_; clear n0_ n1_; (try clear hb); (try clear hb2); (try clear hk); (try clear hi)))
      go_ret2
      exact ⟨by first | rfl | (simp [errW_none, errW_some] <;> rfl) | (simp [*, errW_none, errW_some] <;> rfl), by repeat (first | (with_reducible first | exact HB.out | apply below_alloc | apply pw_below_drewN | apply below_drew1) | exact HB.out)⟩
     ·
      rw [if_neg c17] at H
      have c17b0 : decide (256 < (t256.size : Int)) = false := decide_eq_false c17
      have c17b1 : decide (256 < t256.size) = false := decide_eq_false (by omega)
      clear c17
      simp only [Option.some.injEq, Prod.mk.injEq] at H
      obtain ⟨rfl, rfl⟩ := H
      obtain ⟨Ao20, co20, eo20⟩ := Kd.R_slice HO_4.out
      subst eo20
      go_wp2_with (first | ((with_reducible refine gate_callee (f := 36) rfl ?_); refine goesL_ (some 32) rfl rfl Tryz.func36 (by kernel_rfl) rfl #[.slice Ao20 x4_1.length co20, .string (⟨#[32]⟩ : ByteArray)] rfl qba17 ?_; (with_reducible refine (strings_Join.calls _ _ x4_1 (⟨#[32]⟩ : ByteArray) t256 _ ?side1 ?side2 A16.out).mono ?_); (case side1 => exact qba13); (case side2 => exact (Kd.R_reads' HO_4.out).2.1); rintro e w21 ⟨rfl, hb⟩; refine ⟨_, rfl, ?_⟩; have n0_ := Aside0.mk (Kd.R_below qba21 hb); have n1_ := Aside0.mk (below_step qba18 hb); clear HO_4; clear HB; have HO_4 := n0_; have HB := n1_; clear n0_ n1_; (try clear hb); (try clear hb2); (try clear hk); (try clear hi)))
      go_ret2
      exact ⟨by first | rfl | (simp [errW_none, errW_some] <;> rfl) | (simp [*, errW_none, errW_some] <;> rfl), by repeat (first | (with_reducible first | exact HB.out | apply below_alloc | apply pw_below_drewN | apply below_drew1) | exact HB.out)⟩

def line_Write.f (k : Nat) (l0_0 : List ByteArray) (a0_1 : ByteArray) (l0_2 : List (S40)) : Option (ByteArray × Int) := (line_tokens.f k l0_0 a0_1 l0_2).bind fun bt258 => (if bt258.2 = true then ((lex_Write.f k bt258.1).bind fun bt262 => (some (bt262.1, bt262.2))) else (some ((⟨#[]⟩ : ByteArray), 8)))
set_option maxHeartbeats 8000000 in
set_option maxRecDepth 100000 in
theorem line_Write.calls (k : Nat) (A0_0 : Option Addr) (c0_0 : Nat) (l0_0 : List ByteArray) (a0_1 : ByteArray) (A0_2 : Option Addr) (c0_2 : Nat) (l0_2 : List (S40)) (r1 : ByteArray) (r2 : Int) (w : World) (hr0_0 : Kd.C Kd.string w A0_0 l0_0.length l0_0) (hc0_0 : l0_0.length ≤ c0_0) (hr0_2 : Kd.C k40 w A0_2 l0_2.length l0_2) (hc0_2 : l0_2.length ≤ c0_2) (hT : Lib.TabIs Tryz.prog w "internal/strconv.uint64pow10" .u64 Lib.pow10Tab) (hD : LexW.LexD w) (hE : LexW.LexE w) (hM : ExW.ModsAt w) (hG : LiW.RegsAt w) (h : line_Write.f k l0_0 a0_1 l0_2 = some (r1, r2)) :
  Calls Tryz.prog 9 #[.agg #[.slice A0_0 l0_0.length c0_0, .string a0_1, .slice A0_2 l0_2.length c0_2]] w fun e w' => e = .returned (.tuple #[.string r1, .int .i64 r2]) ∧ Below w.heap.size w w' := by
 have hu25 := Tryz.underlying25
 have HR0_0 := Aside0.mk hr0_0
 have HC0_0 := Aside0.mk hc0_0
 clear hr0_0 hc0_0
 have HR0_2 := Aside0.mk hr0_2
 have HC0_2 := Aside0.mk hc0_2
 clear hr0_2 hc0_2
 have HT := Aside0.mk hT
 clear hT
 have HD_ := Aside0.mk hD
 clear hD
 have HE_ := Aside0.mk hE
 clear hE
 have HM_ := Aside0.mk hM
 clear hM
 have HG_ := Aside0.mk hG
 clear hG
 have HB := Aside0.mk (Below.refl w.heap.size w)
 have H : ((line_tokens.f k l0_0 a0_1 l0_2).bind fun bt258 => (if bt258.2 = true then ((lex_Write.f k bt258.1).bind fun bt262 => (some (bt262.1, bt262.2))) else (some ((⟨#[]⟩ : ByteArray), 8)))) = some (r1, r2) := h
 clear h
 replace H := Option.bind_eq_some_iff.mp H
 obtain ⟨⟨t258, t261⟩, A20, H⟩ := H
 replace H : (if t261 = true then ((lex_Write.f k t258).bind fun bt262 => (some (bt262.1, bt262.2))) else (some ((⟨#[]⟩ : ByteArray), 8))) = some (r1, r2) := H
 have A2 := Aside0.mk A20
 clear A20
 by_cases c3 : t261 = true
 ·
  subst c3
  have H1 : ((lex_Write.f k t258).bind fun bt262 => (some (bt262.1, bt262.2))) = some (r1, r2) := by rw [if_pos rfl] at H; exact H
  clear H
  have H := H1
  clear H1
  replace H := Option.bind_eq_some_iff.mp H
  obtain ⟨⟨t262, t263⟩, A40, H⟩ := H
  replace H : (some (t262, t263)) = some (r1, r2) := H
  have A4 := Aside0.mk A40
  clear A40
  simp only [Option.some.injEq, Prod.mk.injEq] at H
  obtain ⟨rfl, rfl⟩ := H
  go_enter Tryz.func9, Tryz.ntmps9
  go_wp2_with (first | ((with_reducible refine gate_dst (N := 1) rfl ?_); refine box_event ?hg (N := 1) ?hd (cs := #[.slice A0_0 l0_0.length c0_0, .string a0_1, .slice A0_2 l0_2.length c0_2]) (t := 25) ?hr ?_; (case hd => rfl); (case hg => rfl); (case hr => exact qba24); intro gb257 hg w5 hbox hb; have n0_ := Aside0.mk (below_step qba18 hb); have n1_ := Aside0.mk (hbox); have n2_ := Aside0.mk ((by rw [hg]; exact (below_size qba18) : w.heap.size ≤ gb257)); have n3_ := Aside0.mk ((by rw [hg]; exact (below_size qba18) : w.heap.size ≤ gb257)); clear HB; have HB := n0_; have BK257 := n1_; have GW257 := n2_; have GE257 := n3_; clear n0_ n1_ n2_ n3_; clear hb hbox hg; have hcz6_0 := bc0 BK257.out; have hcz6_1 := bc1 BK257.out; have hcz6_2 := bc2 BK257.out; have hfz6_0 := blk_frozen BK257.out 0; have hfz6_1 := blk_frozen BK257.out 1; have hfz6_2 := blk_frozen BK257.out 2) | ((with_reducible refine gate_callee (f := 19) rfl ?_); refine goesL_ (some 8) rfl rfl Tryz.func19 (by kernel_rfl) rfl #[.agg #[.slice A0_0 l0_0.length c0_0, .string a0_1, .slice A0_2 l0_2.length c0_2]] rfl qba17 ?_; (with_reducible refine (line_tokens.calls k _ _ l0_0 a0_1 _ _ l0_2 t258 true _ ?side1 ?side2 ?side3 ?side4 ?side5 ?side6 ?side7 ?side8 ?side9 A2.out).mono ?_); (case side1 => exact qba10); (case side2 => exact HC0_0.out); (case side3 => exact qba11); (case side4 => exact HC0_2.out); (case side5 => exact qba3); (case side6 => exact qba6); (case side7 => exact qba7); (case side8 => exact qba9); (case side9 => exact qba8); rintro e w7 ⟨v259, rfl, ho0, hb⟩; refine ⟨_, rfl, ?_⟩; have n0_ := Aside0.mk (Kd.R_lower ho0 (below_size qba15)); have n1_ := Aside0.mk (blk_below (g := gb257) (o := .cells #[.slice A0_0 l0_0.length c0_0, .string a0_1, .slice A0_2 l0_2.length c0_2] 25 (0, 0)) qba19 hb); have n2_ := Aside0.mk (below_step qba15 hb); clear BK257; clear HB; have HO260 := n0_; have BK257 := n1_; have HB := n2_; clear n0_ n1_ n2_; (try clear hb); (try clear hb2); (try clear hk); (try clear hi); (try clear ho0); obtain ⟨Ao8, co8, eo8⟩ := Kd.R_slice HO260.out; subst eo8) | ((with_reducible refine gate_callee (f := 20) rfl ?_); refine goesL_ (some 14) rfl rfl Tryz.func20 (by kernel_rfl) rfl #[.slice Ao8 t258.length co8] rfl qba17 ?_; (with_reducible refine (lex_Write.calls k _ _ t258 t262 t263 _ ?side1 ?side2 ?side3 ?side4 A4.out).mono ?_); (case side1 => repeat (first | exact (Kd.R_reads' HO260.out).2.2 | (with_reducible refine Kd.C_alloc ?_ _) | (with_reducible refine Kd.C_drewN ?_ _) | (with_reducible refine Kd.C_drew ?_))); (case side2 => exact (Kd.R_reads' HO260.out).2.1); (case side3 => exact qba3); (case side4 => exact qba6); rintro e w9 ⟨rfl, hb⟩; refine ⟨_, rfl, ?_⟩; have n0_ := Aside0.mk (Kd.R_below (by (with_reducible repeat (first | apply Kd.R_alloc | apply Kd.R_drewN | apply Kd.R_drew)); exact HO260.out) hb); have n1_ := Aside0.mk (blk_below (g := gb257) (o := .cells #[.slice A0_0 l0_0.length c0_0, .string a0_1, .slice A0_2 l0_2.length c0_2] 25 (0, 0)) qba19 hb); have n2_ := Aside0.mk (below_step qba15 hb); clear HO260; clear BK257; clear HB; have HO260 := n0_; have BK257 := n1_; have HB := n2_; clear n0_ n1_ n2_; (try clear hb); (try clear hb2); (try clear hk); (try clear hi)))
  go_ret2
  exact ⟨by first | rfl | (simp [errW_none, errW_some] <;> rfl) | (simp [*, errW_none, errW_some] <;> rfl), by repeat (first | (with_reducible first | exact HB.out | apply below_alloc | apply pw_below_drewN | apply below_drew1 | refine below_set ?_ GE257.out) | exact HB.out)⟩
 ·
  replace c3 := Bool.eq_false_iff.mpr c3
  subst c3
  have H1 : (some ((⟨#[]⟩ : ByteArray), 8)) = some (r1, r2) := by rw [if_neg (show ¬ (false = true) by decide)] at H; exact H
  clear H
  have H := H1
  clear H1
  simp only [Option.some.injEq, Prod.mk.injEq] at H
  obtain ⟨rfl, rfl⟩ := H
  go_enter Tryz.func9, Tryz.ntmps9
  go_wp2_with (first | ((with_reducible refine gate_dst (N := 1) rfl ?_); refine box_event ?hg (N := 1) ?hd (cs := #[.slice A0_0 l0_0.length c0_0, .string a0_1, .slice A0_2 l0_2.length c0_2]) (t := 25) ?hr ?_; (case hd => rfl); (case hg => rfl); (case hr => exact qba24); intro gb257 hg w10 hbox hb; have n0_ := Aside0.mk (below_step qba18 hb); have n1_ := Aside0.mk (hbox); have n2_ := Aside0.mk ((by rw [hg]; exact (below_size qba18) : w.heap.size ≤ gb257)); have n3_ := Aside0.mk ((by rw [hg]; exact (below_size qba18) : w.heap.size ≤ gb257)); clear HB; have HB := n0_; have BK257 := n1_; have GW257 := n2_; have GE257 := n3_; clear n0_ n1_ n2_ n3_; clear hb hbox hg; have hcz11_0 := bc0 BK257.out; have hcz11_1 := bc1 BK257.out; have hcz11_2 := bc2 BK257.out; have hfz11_0 := blk_frozen BK257.out 0; have hfz11_1 := blk_frozen BK257.out 1; have hfz11_2 := blk_frozen BK257.out 2) | ((with_reducible refine gate_callee (f := 19) rfl ?_); refine goesL_ (some 8) rfl rfl Tryz.func19 (by kernel_rfl) rfl #[.agg #[.slice A0_0 l0_0.length c0_0, .string a0_1, .slice A0_2 l0_2.length c0_2]] rfl qba17 ?_; (with_reducible refine (line_tokens.calls k _ _ l0_0 a0_1 _ _ l0_2 t258 false _ ?side1 ?side2 ?side3 ?side4 ?side5 ?side6 ?side7 ?side8 ?side9 A2.out).mono ?_); (case side1 => exact qba10); (case side2 => exact HC0_0.out); (case side3 => exact qba11); (case side4 => exact HC0_2.out); (case side5 => exact qba3); (case side6 => exact qba6); (case side7 => exact qba7); (case side8 => exact qba9); (case side9 => exact qba8); rintro e w12 ⟨v259, rfl, ho0, hb⟩; refine ⟨_, rfl, ?_⟩; have n0_ := Aside0.mk (Kd.R_lower ho0 (below_size qba15)); have n1_ := Aside0.mk (blk_below (g := gb257) (o := .cells #[.slice A0_0 l0_0.length c0_0, .string a0_1, .slice A0_2 l0_2.length c0_2] 25 (0, 0)) qba19 hb); have n2_ := Aside0.mk (below_step qba15 hb); clear BK257; clear HB; have HO260 := n0_; have BK257 := n1_; have HB := n2_; clear n0_ n1_ n2_; (try clear hb); (try clear hb2); (try clear hk); (try clear hi); (try clear ho0)))
  go_ret2
  exact ⟨by first | rfl | (simp [errW_none, errW_some] <;> rfl) | (simp [*, errW_none, errW_some] <;> rfl), by repeat (first | (with_reducible first | exact HB.out | apply below_alloc | apply pw_below_drewN | apply below_drew1 | refine below_set ?_ GE257.out) | exact HB.out)⟩

def slices_Equal_string_string.l0 : Nat → List ByteArray → List ByteArray → Int → Int → Option (Bool)
 | 0, _, _, _, _ => none
 | k + 1, x0, x1, x12, x13 => if x13 < x12 then (if 0 ≤ x13 then (if x13 < (x0.length : Int) then (if x13 < (x1.length : Int) then (if (rdOf ByteArray.empty x0 x13).toList = (rdOf ByteArray.empty x1 x13).toList then (slices_Equal_string_string.l0 k x0 x1 x12 (wrap64 (x13 + 1))) else (some false)) else (none)) else (none)) else (none)) else (some true)
def slices_Equal_string_string.f (k : Nat) (l0 : List ByteArray) (l1 : List ByteArray) : Option (Bool) := if (l0.length : Int) = (l1.length : Int) then (slices_Equal_string_string.l0 k l0 l1 (l0.length : Int) 0) else (some false)
set_option maxHeartbeats 8000000 in
set_option maxRecDepth 100000 in
theorem slices_Equal_string_string.calls (k : Nat) (A0 : Option Addr) (c0 : Nat) (l0 : List ByteArray) (A1 : Option Addr) (c1 : Nat) (l1 : List ByteArray) (r : Bool) (w : World) (hr0 : Kd.C Kd.string w A0 l0.length l0) (hc0 : l0.length ≤ c0) (hr1 : Kd.C Kd.string w A1 l1.length l1) (hc1 : l1.length ≤ c1) (h : slices_Equal_string_string.f k l0 l1 = some r) :
  Calls Tryz.prog 23 #[.slice A0 l0.length c0, .slice A1 l1.length c1] w fun e w' => e = .returned (.bool r) ∧ Drawn0 w w' := by
 have HR0 := Aside0.mk hr0
 have HC0 := Aside0.mk hc0
 clear hr0 hc0
 have HR1 := Aside0.mk hr1
 have HC1 := Aside0.mk hc1
 clear hr1 hc1
 have H : (if (l0.length : Int) = (l1.length : Int) then (slices_Equal_string_string.l0 k l0 l1 (l0.length : Int) 0) else (some false)) = some r := h
 clear h
 by_cases c3 : (l0.length : Int) = (l1.length : Int)
 ·
  rw [if_pos c3] at H
  have c3b0 : ((l0.length : Int) == (l1.length : Int)) = true := beq_iff_eq.mpr c3
  have c3b1 : ((l0.length : Int) != (l1.length : Int)) = false := bne_eq_false_iff_eq.mpr c3
  have c3b2 : (l0.length == l1.length) = true := by first | simpa using c3 | (simp at c3 ⊢; omega)
  clear c3
  have H' := Aside0.mk H
  clear H
  go_enter Tryz.func23, Tryz.ntmps23
  go_wp2
  repeat (go_quiet (fail); try go_wp2)
  go_loopg [13] k (fun kq v13 w' => ∃ (x13_1 : Int), v13 = .int .i64 x13_1 ∧ Aside0 (slices_Equal_string_string.l0 kq l0 l1 (l0.length : Int) x13_1 = some r) ∧ Aside0 (kq ≤ k) ∧ Drawn0 w w')
  case atStart => exact ⟨(0), qba23, H', ⟨Nat.le_refl _⟩, by repeat (first | exact Drawn0.refl _ | apply Drawn0.step)⟩
  case round =>
   clear H'
   try clear c1
   try clear c2
   try clear p2
   try clear c3
   try clear c3b0
   try clear c3b1
   try clear c3b2
   obtain ⟨x13_1, rfl, HA, HK1, ⟨m1, rfl⟩⟩ := hrel
   cases gk with
   | zero => exact absurd HA.out (by simp [slices_Equal_string_string.l0])
   | succ k1 =>
    have H := HA.out
    clear HA
    simp only [slices_Equal_string_string.l0] at H
    by_cases c4 : x13_1 < (l0.length : Int)
    ·
     rw [if_pos c4] at H
     have c4b0 : decide (x13_1 < (l0.length : Int)) = true := decide_eq_true c4
     clear c4
     by_cases c5 : 0 ≤ x13_1
     ·
      rw [if_pos c5] at H
      have c5b0 : decide (0 ≤ x13_1) = true := decide_eq_true c5
      clear c5
      by_cases c6 : x13_1 < (l0.length : Int)
      ·
       rw [if_pos c6] at H
       have c6b0 : decide (x13_1 < (l0.length : Int)) = true := decide_eq_true c6
       clear c6
       by_cases c7 : x13_1 < (l1.length : Int)
       ·
        rw [if_pos c7] at H
        have c7b0 : decide (x13_1 < (l1.length : Int)) = true := decide_eq_true c7
        clear c7
        by_cases c8 : (rdOf ByteArray.empty l0 x13_1).toList = (rdOf ByteArray.empty l1 x13_1).toList
        ·
         rw [if_pos c8] at H
         have c8b0 : ((rdOf ByteArray.empty l0 x13_1).toList == (rdOf ByteArray.empty l1 x13_1).toList) = true := beq_iff_eq.mpr c8
         have c8b1 : ((rdOf ByteArray.empty l0 x13_1).toList != (rdOf ByteArray.empty l1 x13_1).toList) = false := bne_eq_false_iff_eq.mpr c8
         clear c8
         have H' := Aside0.mk H
         clear H
         have p529 : 0 ≤ (x13_1 : Int) := of_decide_eq_true qba22
         have q529 : x13_1 < (l0.length : Int) := of_decide_eq_true qba22
         obtain ⟨ad529, e529, hx529_0⟩ := Kd.at_string HR0.out x13_1 p529 q529
         cases e529
         replace p529 := eq_true p529
         replace q529 := eq_true q529
         have p530 : 0 ≤ (x13_1 : Int) := of_decide_eq_true qba22
         have q530 : x13_1 < (l1.length : Int) := of_decide_eq_true qba22
         obtain ⟨ad530, e530, hx530_0⟩ := Kd.at_string HR1.out x13_1 p530 q530
         cases e530
         replace p530 := eq_true p530
         replace q530 := eq_true q530
         go_wp2
         repeat (go_quiet (fail); try go_wp2)
         go_roundg k1
         case measure => have := HK1.out; omega
         case rel => exact ⟨(wrap64 (x13_1 + 1)), qba23, H', ⟨by have := HK1.out; omega⟩, by repeat (first | exact Drawn0.refl _ | apply Drawn0.step)⟩
        ·
         rw [if_neg c8] at H
         have c8b0 : ((rdOf ByteArray.empty l0 x13_1).toList == (rdOf ByteArray.empty l1 x13_1).toList) = false := beq_eq_false_iff_ne.mpr c8
         have c8b1 : ((rdOf ByteArray.empty l0 x13_1).toList != (rdOf ByteArray.empty l1 x13_1).toList) = true := bne_iff_ne.mpr c8
         obtain rfl := Option.some.inj H
         have p529 : 0 ≤ (x13_1 : Int) := of_decide_eq_true qba22
         have q529 : x13_1 < (l0.length : Int) := of_decide_eq_true qba22
         obtain ⟨ad529, e529, hx529_0⟩ := Kd.at_string HR0.out x13_1 p529 q529
         cases e529
         replace p529 := eq_true p529
         replace q529 := eq_true q529
         have p530 : 0 ≤ (x13_1 : Int) := of_decide_eq_true qba22
         have q530 : x13_1 < (l1.length : Int) := of_decide_eq_true qba22
         obtain ⟨ad530, e530, hx530_0⟩ := Kd.at_string HR1.out x13_1 p530 q530
         cases e530
         replace p530 := eq_true p530
         replace q530 := eq_true q530
         go_wp2
         repeat (go_quiet (fail); try go_wp2)
         go_ret
         exact ⟨by first | rfl | (simp; done) | (simp [*]; done), by repeat (first | exact Drawn0.refl _ | apply Drawn0.step)⟩
       ·
        rw [if_neg c7] at H
        exact absurd H (by simp)
      ·
       rw [if_neg c6] at H
       exact absurd H (by simp)
     ·
      rw [if_neg c5] at H
      exact absurd H (by simp)
    ·
     rw [if_neg c4] at H
     have c4b0 : decide (x13_1 < (l0.length : Int)) = false := decide_eq_false c4
     clear c4
     obtain rfl := Option.some.inj H
     go_wp2
     repeat (go_quiet (fail); try go_wp2)
     go_ret
     exact ⟨by first | rfl | (simp; done) | (simp [*]; done), by repeat (first | exact Drawn0.refl _ | apply Drawn0.step)⟩
 ·
  rw [if_neg c3] at H
  have c3b0 : ((l0.length : Int) == (l1.length : Int)) = false := beq_eq_false_iff_ne.mpr c3
  have c3b1 : ((l0.length : Int) != (l1.length : Int)) = true := bne_iff_ne.mpr c3
  have c3b2 : (l0.length == l1.length) = false := by first | simpa using c3 | (simp at c3 ⊢; omega)
  obtain rfl := Option.some.inj H
  go_enter Tryz.func23, Tryz.ntmps23
  go_wp2
  repeat (go_quiet (fail); try go_wp2)
  go_ret
  exact ⟨by first | rfl | (simp; done) | (simp [*]; done), by repeat (first | exact Drawn0.refl _ | apply Drawn0.step)⟩

def api_Arg.l0 : Nat → List (S40) → List (S40) → Int → Int → Option (Bool)
 | 0, _, _, _, _ => none
 | k + 1, x0, x1, x12, x13 => if x13 < x12 then (if 0 ≤ x13 then (if x13 < (x0.length : Int) then (if x13 < (x1.length : Int) then (if (!(((rd_T40 x0 x13).f0) == ((rd_T40 x1 x13).f0)) || (!(((rd_T40 x0 x13).f1) == ((rd_T40 x1 x13).f1)) || ((!((((rd_T40 x0 x13).f2.f0).toList) == (((rd_T40 x1 x13).f2.f0).toList)) || (!((((rd_T40 x0 x13).f2.f1).toList) == (((rd_T40 x1 x13).f2.f1).toList)) || (!(((rd_T40 x0 x13).f2.f2) == ((rd_T40 x1 x13).f2.f2)) || (!(((rd_T40 x0 x13).f2.f3) == ((rd_T40 x1 x13).f2.f3)))))) || (!((((rd_T40 x0 x13).f3).toList) == (((rd_T40 x1 x13).f3).toList)))))) = true then (some false) else (api_Arg.l0 k x0 x1 x12 (wrap64 (x13 + 1)))) else (none)) else (none)) else (none)) else (some true)
def api_Arg.f (k : Nat) (l0 : List (S40)) (l1 : List (S40)) : Option (Bool) := if (l0.length : Int) = (l1.length : Int) then (api_Arg.l0 k l0 l1 (l0.length : Int) 0) else (some false)
set_option maxHeartbeats 8000000 in
set_option maxRecDepth 100000 in
theorem api_Arg.calls (k : Nat) (A0 : Option Addr) (c0 : Nat) (l0 : List (S40)) (A1 : Option Addr) (c1 : Nat) (l1 : List (S40)) (r : Bool) (w : World) (hr0 : Kd.C k40 w A0 l0.length l0) (hc0 : l0.length ≤ c0) (hr1 : Kd.C k40 w A1 l1.length l1) (hc1 : l1.length ≤ c1) (h : api_Arg.f k l0 l1 = some r) :
  Calls Tryz.prog 24 #[.slice A0 l0.length c0, .slice A1 l1.length c1] w fun e w' => e = .returned (.bool r) ∧ Drawn0 w w' := by
 have hu40 := Tryz.underlying40
 have HR0 := Aside0.mk hr0
 have HC0 := Aside0.mk hc0
 clear hr0 hc0
 have HR1 := Aside0.mk hr1
 have HC1 := Aside0.mk hc1
 clear hr1 hc1
 have H : (if (l0.length : Int) = (l1.length : Int) then (api_Arg.l0 k l0 l1 (l0.length : Int) 0) else (some false)) = some r := h
 clear h
 by_cases c3 : (l0.length : Int) = (l1.length : Int)
 ·
  rw [if_pos c3] at H
  have c3b0 : ((l0.length : Int) == (l1.length : Int)) = true := beq_iff_eq.mpr c3
  have c3b1 : ((l0.length : Int) != (l1.length : Int)) = false := bne_eq_false_iff_eq.mpr c3
  have c3b2 : (l0.length == l1.length) = true := by first | simpa using c3 | (simp at c3 ⊢; omega)
  clear c3
  have H' := Aside0.mk H
  clear H
  go_enter Tryz.func24, Tryz.ntmps24
  go_wp2
  repeat (go_quiet (fail); try go_wp2)
  go_loopg [13] k (fun kq v13 w' => ∃ (x13_1 : Int), v13 = .int .i64 x13_1 ∧ Aside0 (api_Arg.l0 kq l0 l1 (l0.length : Int) x13_1 = some r) ∧ Aside0 (kq ≤ k) ∧ Drawn0 w w')
  case atStart => exact ⟨(0), qba23, H', ⟨Nat.le_refl _⟩, by repeat (first | exact Drawn0.refl _ | apply Drawn0.step)⟩
  case round =>
   clear H'
   try clear c1
   try clear c2
   try clear p2
   try clear c3
   try clear c3b0
   try clear c3b1
   try clear c3b2
   obtain ⟨x13_1, rfl, HA, HK1, ⟨m1, rfl⟩⟩ := hrel
   cases gk with
   | zero => exact absurd HA.out (by simp [api_Arg.l0])
   | succ k1 =>
    have H := HA.out
    clear HA
    simp only [api_Arg.l0] at H
    by_cases c4 : x13_1 < (l0.length : Int)
    ·
     rw [if_pos c4] at H
     have c4b0 : decide (x13_1 < (l0.length : Int)) = true := decide_eq_true c4
     clear c4
     by_cases c5 : 0 ≤ x13_1
     ·
      rw [if_pos c5] at H
      have c5b0 : decide (0 ≤ x13_1) = true := decide_eq_true c5
      clear c5
      by_cases c6 : x13_1 < (l0.length : Int)
      ·
       rw [if_pos c6] at H
       have c6b0 : decide (x13_1 < (l0.length : Int)) = true := decide_eq_true c6
       clear c6
       by_cases c7 : x13_1 < (l1.length : Int)
       ·
        rw [if_pos c7] at H
        have c7b0 : decide (x13_1 < (l1.length : Int)) = true := decide_eq_true c7
        clear c7
        by_cases c8 : (!(((rd_T40 l0 x13_1).f0) == ((rd_T40 l1 x13_1).f0)) || (!(((rd_T40 l0 x13_1).f1) == ((rd_T40 l1 x13_1).f1)) || ((!((((rd_T40 l0 x13_1).f2.f0).toList) == (((rd_T40 l1 x13_1).f2.f0).toList)) || (!((((rd_T40 l0 x13_1).f2.f1).toList) == (((rd_T40 l1 x13_1).f2.f1).toList)) || (!(((rd_T40 l0 x13_1).f2.f2) == ((rd_T40 l1 x13_1).f2.f2)) || (!(((rd_T40 l0 x13_1).f2.f3) == ((rd_T40 l1 x13_1).f2.f3)))))) || (!((((rd_T40 l0 x13_1).f3).toList) == (((rd_T40 l1 x13_1).f3).toList)))))) = true
        ·
         rw [if_pos c8] at H
         have c8b0 : (!(((rd_T40 l0 x13_1).f0) == ((rd_T40 l1 x13_1).f0)) || (!(((rd_T40 l0 x13_1).f1) == ((rd_T40 l1 x13_1).f1)) || ((!((((rd_T40 l0 x13_1).f2.f0).toList) == (((rd_T40 l1 x13_1).f2.f0).toList)) || (!((((rd_T40 l0 x13_1).f2.f1).toList) == (((rd_T40 l1 x13_1).f2.f1).toList)) || (!(((rd_T40 l0 x13_1).f2.f2) == ((rd_T40 l1 x13_1).f2.f2)) || (!(((rd_T40 l0 x13_1).f2.f3) == ((rd_T40 l1 x13_1).f2.f3)))))) || (!((((rd_T40 l0 x13_1).f3).toList) == (((rd_T40 l1 x13_1).f3).toList)))))) = true := c8
         clear c8
         obtain rfl := Option.some.inj H
         have p531 : 0 ≤ (x13_1 : Int) := of_decide_eq_true qba22
         have q531 : x13_1 < (l0.length : Int) := of_decide_eq_true qba22
         obtain ⟨ad531, e531, hx531_0, hx531_1, hx531_2, hx531_3, hx531_4, hx531_5, hx531_6⟩ := at_T40 HR0.out x13_1 p531 q531
         cases e531
         replace p531 := eq_true p531
         replace q531 := eq_true q531
         have p532 : 0 ≤ (x13_1 : Int) := of_decide_eq_true qba22
         have q532 : x13_1 < (l1.length : Int) := of_decide_eq_true qba22
         obtain ⟨ad532, e532, hx532_0, hx532_1, hx532_2, hx532_3, hx532_4, hx532_5, hx532_6⟩ := at_T40 HR1.out x13_1 p532 q532
         cases e532
         replace p532 := eq_true p532
         replace q532 := eq_true q532
         go_wp2
         repeat (go_quiet (fail); try go_wp2)
         go_ret
         exact ⟨by first | rfl | (simp; done) | (simp [*]; done), by repeat (first | exact Drawn0.refl _ | apply Drawn0.step)⟩
        ·
         rw [if_neg c8] at H
         have c8b0 : (!(((rd_T40 l0 x13_1).f0) == ((rd_T40 l1 x13_1).f0)) || (!(((rd_T40 l0 x13_1).f1) == ((rd_T40 l1 x13_1).f1)) || ((!((((rd_T40 l0 x13_1).f2.f0).toList) == (((rd_T40 l1 x13_1).f2.f0).toList)) || (!((((rd_T40 l0 x13_1).f2.f1).toList) == (((rd_T40 l1 x13_1).f2.f1).toList)) || (!(((rd_T40 l0 x13_1).f2.f2) == ((rd_T40 l1 x13_1).f2.f2)) || (!(((rd_T40 l0 x13_1).f2.f3) == ((rd_T40 l1 x13_1).f2.f3)))))) || (!((((rd_T40 l0 x13_1).f3).toList) == (((rd_T40 l1 x13_1).f3).toList)))))) = false := by simpa using c8
         clear c8
         have H' := Aside0.mk H
         clear H
         have p531 : 0 ≤ (x13_1 : Int) := of_decide_eq_true qba22
         have q531 : x13_1 < (l0.length : Int) := of_decide_eq_true qba22
         obtain ⟨ad531, e531, hx531_0, hx531_1, hx531_2, hx531_3, hx531_4, hx531_5, hx531_6⟩ := at_T40 HR0.out x13_1 p531 q531
         cases e531
         replace p531 := eq_true p531
         replace q531 := eq_true q531
         have p532 : 0 ≤ (x13_1 : Int) := of_decide_eq_true qba22
         have q532 : x13_1 < (l1.length : Int) := of_decide_eq_true qba22
         obtain ⟨ad532, e532, hx532_0, hx532_1, hx532_2, hx532_3, hx532_4, hx532_5, hx532_6⟩ := at_T40 HR1.out x13_1 p532 q532
         cases e532
         replace p532 := eq_true p532
         replace q532 := eq_true q532
         go_wp2
         repeat (go_quiet (fail); try go_wp2)
         go_roundg k1
         case measure => have := HK1.out; omega
         case rel => exact ⟨(wrap64 (x13_1 + 1)), qba23, H', ⟨by have := HK1.out; omega⟩, by repeat (first | exact Drawn0.refl _ | apply Drawn0.step)⟩
       ·
        rw [if_neg c7] at H
        exact absurd H (by simp)
      ·
       rw [if_neg c6] at H
       exact absurd H (by simp)
     ·
      rw [if_neg c5] at H
      exact absurd H (by simp)
    ·
     rw [if_neg c4] at H
     have c4b0 : decide (x13_1 < (l0.length : Int)) = false := decide_eq_false c4
     clear c4
     obtain rfl := Option.some.inj H
     go_wp2
     repeat (go_quiet (fail); try go_wp2)
     go_ret
     exact ⟨by first | rfl | (simp; done) | (simp [*]; done), by repeat (first | exact Drawn0.refl _ | apply Drawn0.step)⟩
 ·
  rw [if_neg c3] at H
  have c3b0 : ((l0.length : Int) == (l1.length : Int)) = false := beq_eq_false_iff_ne.mpr c3
  have c3b1 : ((l0.length : Int) != (l1.length : Int)) = true := bne_iff_ne.mpr c3
  have c3b2 : (l0.length == l1.length) = false := by first | simpa using c3 | (simp at c3 ⊢; omega)
  obtain rfl := Option.some.inj H
  go_enter Tryz.func24, Tryz.ntmps24
  go_wp2
  repeat (go_quiet (fail); try go_wp2)
  go_ret
  exact ⟨by first | rfl | (simp; done) | (simp [*]; done), by repeat (first | exact Drawn0.refl _ | apply Drawn0.step)⟩

def line_Same.f (k : Nat) (l0_0 : List ByteArray) (a0_1 : ByteArray) (l0_2 : List (S40)) (l1_0 : List ByteArray) (a1_1 : ByteArray) (l1_2 : List (S40)) : Option (Bool) := (slices_Equal_string_string.f k l0_0 l1_0).bind fun t535 => (if t535 = true then (if a0_1.toList = a1_1.toList then ((api_Arg.f k l0_2 l1_2).bind fun t536 => (some t536)) else (some false)) else (some false))
set_option maxHeartbeats 8000000 in
set_option maxRecDepth 100000 in
theorem line_Same.calls (k : Nat) (A0_0 : Option Addr) (c0_0 : Nat) (l0_0 : List ByteArray) (a0_1 : ByteArray) (A0_2 : Option Addr) (c0_2 : Nat) (l0_2 : List (S40)) (A1_0 : Option Addr) (c1_0 : Nat) (l1_0 : List ByteArray) (a1_1 : ByteArray) (A1_2 : Option Addr) (c1_2 : Nat) (l1_2 : List (S40)) (r : Bool) (w : World) (hr0_0 : Kd.C Kd.string w A0_0 l0_0.length l0_0) (hc0_0 : l0_0.length ≤ c0_0) (hr0_2 : Kd.C k40 w A0_2 l0_2.length l0_2) (hc0_2 : l0_2.length ≤ c0_2) (hr1_0 : Kd.C Kd.string w A1_0 l1_0.length l1_0) (hc1_0 : l1_0.length ≤ c1_0) (hr1_2 : Kd.C k40 w A1_2 l1_2.length l1_2) (hc1_2 : l1_2.length ≤ c1_2) (h : line_Same.f k l0_0 a0_1 l0_2 l1_0 a1_1 l1_2 = some r) :
  Calls Tryz.prog 13 #[.agg #[.slice A0_0 l0_0.length c0_0, .string a0_1, .slice A0_2 l0_2.length c0_2], .agg #[.slice A1_0 l1_0.length c1_0, .string a1_1, .slice A1_2 l1_2.length c1_2]] w fun e w' => e = .returned (.bool r) ∧ Below w.heap.size w w' := by
 have hu25 := Tryz.underlying25
 have HR0_0 := Aside0.mk hr0_0
 have HC0_0 := Aside0.mk hc0_0
 clear hr0_0 hc0_0
 have HR0_2 := Aside0.mk hr0_2
 have HC0_2 := Aside0.mk hc0_2
 clear hr0_2 hc0_2
 have HR1_0 := Aside0.mk hr1_0
 have HC1_0 := Aside0.mk hc1_0
 clear hr1_0 hc1_0
 have HR1_2 := Aside0.mk hr1_2
 have HC1_2 := Aside0.mk hc1_2
 clear hr1_2 hc1_2
 have HB := Aside0.mk (Below.refl w.heap.size w)
 have H : ((slices_Equal_string_string.f k l0_0 l1_0).bind fun t535 => (if t535 = true then (if a0_1.toList = a1_1.toList then ((api_Arg.f k l0_2 l1_2).bind fun t536 => (some t536)) else (some false)) else (some false))) = some r := h
 clear h
 replace H := Option.bind_eq_some_iff.mp H
 obtain ⟨t535, A30, H⟩ := H
 replace H : (if t535 = true then (if a0_1.toList = a1_1.toList then ((api_Arg.f k l0_2 l1_2).bind fun t536 => (some t536)) else (some false)) else (some false)) = some r := H
 have A3 := Aside0.mk A30
 clear A30
 by_cases c4 : t535 = true
 ·
  subst c4
  have H1 : (if a0_1.toList = a1_1.toList then ((api_Arg.f k l0_2 l1_2).bind fun t536 => (some t536)) else (some false)) = some r := by rw [if_pos rfl] at H; exact H
  clear H
  have H := H1
  clear H1
  by_cases c5 : a0_1.toList = a1_1.toList
  ·
   rw [if_pos c5] at H
   have c5b0 : (a0_1.toList == a1_1.toList) = true := beq_iff_eq.mpr c5
   have c5b1 : (a0_1.toList != a1_1.toList) = false := bne_eq_false_iff_eq.mpr c5
   clear c5
   replace H := Option.bind_eq_some_iff.mp H
   obtain ⟨t536, A60, H⟩ := H
   replace H : (some t536) = some r := H
   have A6 := Aside0.mk A60
   clear A60
   obtain rfl := Option.some.inj H
   go_enter Tryz.func13, Tryz.ntmps13
   go_wp2_with (first | ((with_reducible refine gate_dst (N := 2) rfl ?_); refine box_event ?hg (N := 2) ?hd (cs := #[.slice A0_0 l0_0.length c0_0, .string a0_1, .slice A0_2 l0_2.length c0_2]) (t := 25) ?hr ?_; (case hd => rfl); (case hg => rfl); (case hr => exact qba24); intro gb533 hg w7 hbox hb; have n0_ := Aside0.mk (below_step qba18 hb); have n1_ := Aside0.mk (hbox); have n2_ := Aside0.mk ((by rw [hg]; exact (below_size qba18) : w.heap.size ≤ gb533)); have n3_ := Aside0.mk ((by rw [hg]; exact (below_size qba18) : w.heap.size ≤ gb533)); clear HB; have HB := n0_; have BK533 := n1_; have GW533 := n2_; have GE533 := n3_; clear n0_ n1_ n2_ n3_; clear hb hbox hg) | ((with_reducible refine gate_dst (N := 3) rfl ?_); refine box_event ?hg (N := 3) ?hd (cs := #[.slice A1_0 l1_0.length c1_0, .string a1_1, .slice A1_2 l1_2.length c1_2]) (t := 25) ?hr ?_; (case hd => rfl); (case hg => rfl); (case hr => exact qba24); intro gb534 hg w8 hbox hb; have n0_ := Aside0.mk (blk_below (g := gb533) (o := .cells #[.slice A0_0 l0_0.length c0_0, .string a0_1, .slice A0_2 l0_2.length c0_2] 25 (0, 0)) qba20 hb); have n1_ := Aside0.mk (below_step qba16 hb); have n2_ := Aside0.mk (hbox); have n3_ := Aside0.mk ((by rw [hg]; exact (below_size qba16) : w.heap.size ≤ gb534)); have n4_ := Aside0.mk ((by rw [hg]; exact (below_size qba16) : w.heap.size ≤ gb534)); have n5_ := Aside0.mk ((by rw [hg]; exact Nat.ne_of_lt (blk_lt (g := gb533) (o := .cells #[.slice A0_0 l0_0.length c0_0, .string a0_1, .slice A0_2 l0_2.length c0_2] 25 (0, 0)) qba20) : gb533 ≠ gb534)); have n6_ := Aside0.mk ((by rw [hg]; exact Nat.ne_of_gt (blk_lt (g := gb533) (o := .cells #[.slice A0_0 l0_0.length c0_0, .string a0_1, .slice A0_2 l0_2.length c0_2] 25 (0, 0)) qba20) : gb534 ≠ gb533)); clear BK533; clear HB; have BK533 := n0_; have HB := n1_; have BK534 := n2_; have GW534 := n3_; have GE534 := n4_; have NB533_534 := n5_; have NB534_533 := n6_; clear n0_ n1_ n2_ n3_ n4_ n5_ n6_; clear hb hbox hg; have hnb9 := NB533_534.out; have hnc9 := NB534_533.out; have hcz10_0 := bc0 BK533.out; have hcz10_1 := bc1 BK533.out; have hcz10_2 := bc2 BK533.out; have hfz10_0 := blk_frozen BK533.out 0; have hfz10_1 := blk_frozen BK533.out 1; have hfz10_2 := blk_frozen BK533.out 2; have hcz11_0 := bc0 BK534.out; have hcz11_1 := bc1 BK534.out; have hcz11_2 := bc2 BK534.out; have hfz11_0 := blk_frozen BK534.out 0; have hfz11_1 := blk_frozen BK534.out 1; have hfz11_2 := blk_frozen BK534.out 2) | ((with_reducible refine gate_callee (f := 23) rfl ?_); refine goesL_ (some 9) rfl rfl Tryz.func23 (by kernel_rfl) rfl #[.slice A0_0 l0_0.length c0_0, .slice A1_0 l1_0.length c1_0] rfl qba17 ?_; (with_reducible refine (slices_Equal_string_string.calls k _ _ l0_0 _ _ l1_0 true _ ?side1 ?side2 ?side3 ?side4 A3.out).mono ?_); (case side1 => exact qba10); (case side2 => exact HC0_0.out); (case side3 => exact qba12); (case side4 => exact HC1_0.out); rintro e w' ⟨rfl, ⟨nd, rfl⟩⟩; refine ⟨_, rfl, ?_⟩) | (go_at_call 24; (with_reducible refine (api_Arg.calls k _ _ l0_2 _ _ l1_2 t536 _ ?side1 ?side2 ?side3 ?side4 A6.out).mono ?_); (case side1 => repeat (first | exact (Kd.C_below HR0_2.out qba4) | (with_reducible refine Kd.C_alloc ?_ _) | (with_reducible refine Kd.C_drewN ?_ _) | (with_reducible refine Kd.C_drew ?_))); (case side2 => exact HC0_2.out); (case side3 => repeat (first | exact (Kd.C_below HR1_2.out qba4) | (with_reducible refine Kd.C_alloc ?_ _) | (with_reducible refine Kd.C_drewN ?_ _) | (with_reducible refine Kd.C_drew ?_))); (case side4 => exact HC1_2.out); rintro e w' ⟨rfl, ⟨nd, rfl⟩⟩))
   go_ret
   exact ⟨by first | rfl | (simp [errW_none, errW_some] <;> rfl) | (simp [*, errW_none, errW_some] <;> rfl), by repeat (first | (with_reducible first | exact HB.out | apply below_alloc | apply pw_below_drewN | apply below_drew1 | refine below_set ?_ GE533.out | refine below_set ?_ GE534.out) | exact HB.out)⟩
  ·
   rw [if_neg c5] at H
   have c5b0 : (a0_1.toList == a1_1.toList) = false := beq_eq_false_iff_ne.mpr c5
   have c5b1 : (a0_1.toList != a1_1.toList) = true := bne_iff_ne.mpr c5
   obtain rfl := Option.some.inj H
   go_enter Tryz.func13, Tryz.ntmps13
   go_wp2_with (first | ((with_reducible refine gate_dst (N := 2) rfl ?_); refine box_event ?hg (N := 2) ?hd (cs := #[.slice A0_0 l0_0.length c0_0, .string a0_1, .slice A0_2 l0_2.length c0_2]) (t := 25) ?hr ?_; (case hd => rfl); (case hg => rfl); (case hr => exact qba24); intro gb533 hg w12 hbox hb; have n0_ := Aside0.mk (below_step qba18 hb); have n1_ := Aside0.mk (hbox); have n2_ := Aside0.mk ((by rw [hg]; exact (below_size qba18) : w.heap.size ≤ gb533)); have n3_ := Aside0.mk ((by rw [hg]; exact (below_size qba18) : w.heap.size ≤ gb533)); clear HB; have HB := n0_; have BK533 := n1_; have GW533 := n2_; have GE533 := n3_; clear n0_ n1_ n2_ n3_; clear hb hbox hg) | ((with_reducible refine gate_dst (N := 3) rfl ?_); refine box_event ?hg (N := 3) ?hd (cs := #[.slice A1_0 l1_0.length c1_0, .string a1_1, .slice A1_2 l1_2.length c1_2]) (t := 25) ?hr ?_; (case hd => rfl); (case hg => rfl); (case hr => exact qba24); intro gb534 hg w13 hbox hb; have n0_ := Aside0.mk (blk_below (g := gb533) (o := .cells #[.slice A0_0 l0_0.length c0_0, .string a0_1, .slice A0_2 l0_2.length c0_2] 25 (0, 0)) qba20 hb); have n1_ := Aside0.mk (below_step qba16 hb); have n2_ := Aside0.mk (hbox); have n3_ := Aside0.mk ((by rw [hg]; exact (below_size qba16) : w.heap.size ≤ gb534)); have n4_ := Aside0.mk ((by rw [hg]; exact (below_size qba16) : w.heap.size ≤ gb534)); have n5_ := Aside0.mk ((by rw [hg]; exact Nat.ne_of_lt (blk_lt (g := gb533) (o := .cells #[.slice A0_0 l0_0.length c0_0, .string a0_1, .slice A0_2 l0_2.length c0_2] 25 (0, 0)) qba20) : gb533 ≠ gb534)); have n6_ := Aside0.mk ((by rw [hg]; exact Nat.ne_of_gt (blk_lt (g := gb533) (o := .cells #[.slice A0_0 l0_0.length c0_0, .string a0_1, .slice A0_2 l0_2.length c0_2] 25 (0, 0)) qba20) : gb534 ≠ gb533)); clear BK533; clear HB; have BK533 := n0_; have HB := n1_; have BK534 := n2_; have GW534 := n3_; have GE534 := n4_; have NB533_534 := n5_; have NB534_533 := n6_; clear n0_ n1_ n2_ n3_ n4_ n5_ n6_; clear hb hbox hg; have hnb14 := NB533_534.out; have hnc14 := NB534_533.out; have hcz15_0 := bc0 BK533.out; have hcz15_1 := bc1 BK533.out; have hcz15_2 := bc2 BK533.out; have hfz15_0 := blk_frozen BK533.out 0; have hfz15_1 := blk_frozen BK533.out 1; have hfz15_2 := blk_frozen BK533.out 2; have hcz16_0 := bc0 BK534.out; have hcz16_1 := bc1 BK534.out; have hcz16_2 := bc2 BK534.out; have hfz16_0 := blk_frozen BK534.out 0; have hfz16_1 := blk_frozen BK534.out 1; have hfz16_2 := blk_frozen BK534.out 2) | ((with_reducible refine gate_callee (f := 23) rfl ?_); refine goesL_ (some 9) rfl rfl Tryz.func23 (by kernel_rfl) rfl #[.slice A0_0 l0_0.length c0_0, .slice A1_0 l1_0.length c1_0] rfl qba17 ?_; (with_reducible refine (slices_Equal_string_string.calls k _ _ l0_0 _ _ l1_0 true _ ?side1 ?side2 ?side3 ?side4 A3.out).mono ?_); (case side1 => exact qba10); (case side2 => exact HC0_0.out); (case side3 => exact qba12); (case side4 => exact HC1_0.out); rintro e w' ⟨rfl, ⟨nd, rfl⟩⟩; refine ⟨_, rfl, ?_⟩))
   go_ret
   exact ⟨by first | rfl | (simp [errW_none, errW_some] <;> rfl) | (simp [*, errW_none, errW_some] <;> rfl), by repeat (first | (with_reducible first | exact HB.out | apply below_alloc | apply pw_below_drewN | apply below_drew1 | refine below_set ?_ GE533.out | refine below_set ?_ GE534.out) | exact HB.out)⟩
 ·
  replace c4 := Bool.eq_false_iff.mpr c4
  subst c4
  have H1 : (some false) = some r := by rw [if_neg (show ¬ (false = true) by decide)] at H; exact H
  clear H
  have H := H1
  clear H1
  obtain rfl := Option.some.inj H
  go_enter Tryz.func13, Tryz.ntmps13
  go_wp2_with (first | ((with_reducible refine gate_dst (N := 2) rfl ?_); refine box_event ?hg (N := 2) ?hd (cs := #[.slice A0_0 l0_0.length c0_0, .string a0_1, .slice A0_2 l0_2.length c0_2]) (t := 25) ?hr ?_; (case hd => rfl); (case hg => rfl); (case hr => exact qba24); intro gb533 hg w17 hbox hb; have n0_ := Aside0.mk (below_step qba18 hb); have n1_ := Aside0.mk (hbox); have n2_ := Aside0.mk ((by rw [hg]; exact (below_size qba18) : w.heap.size ≤ gb533)); have n3_ := Aside0.mk ((by rw [hg]; exact (below_size qba18) : w.heap.size ≤ gb533)); clear HB; have HB := n0_; have BK533 := n1_; have GW533 := n2_; have GE533 := n3_; clear n0_ n1_ n2_ n3_; clear hb hbox hg) | ((with_reducible refine gate_dst (N := 3) rfl ?_); refine box_event ?hg (N := 3) ?hd (cs := #[.slice A1_0 l1_0.length c1_0, .string a1_1, .slice A1_2 l1_2.length c1_2]) (t := 25) ?hr ?_; (case hd => rfl); (case hg => rfl); (case hr => exact qba24); intro gb534 hg w18 hbox hb; have n0_ := Aside0.mk (blk_below (g := gb533) (o := .cells #[.slice A0_0 l0_0.length c0_0, .string a0_1, .slice A0_2 l0_2.length c0_2] 25 (0, 0)) qba20 hb); have n1_ := Aside0.mk (below_step qba16 hb); have n2_ := Aside0.mk (hbox); have n3_ := Aside0.mk ((by rw [hg]; exact (below_size qba16) : w.heap.size ≤ gb534)); have n4_ := Aside0.mk ((by rw [hg]; exact (below_size qba16) : w.heap.size ≤ gb534)); have n5_ := Aside0.mk ((by rw [hg]; exact Nat.ne_of_lt (blk_lt (g := gb533) (o := .cells #[.slice A0_0 l0_0.length c0_0, .string a0_1, .slice A0_2 l0_2.length c0_2] 25 (0, 0)) qba20) : gb533 ≠ gb534)); have n6_ := Aside0.mk ((by rw [hg]; exact Nat.ne_of_gt (blk_lt (g := gb533) (o := .cells #[.slice A0_0 l0_0.length c0_0, .string a0_1, .slice A0_2 l0_2.length c0_2] 25 (0, 0)) qba20) : gb534 ≠ gb533)); clear BK533; clear HB; have BK533 := n0_; have HB := n1_; have BK534 := n2_; have GW534 := n3_; have GE534 := n4_; have NB533_534 := n5_; have NB534_533 := n6_; clear n0_ n1_ n2_ n3_ n4_ n5_ n6_; clear hb hbox hg; have hnb19 := NB533_534.out; have hnc19 := NB534_533.out; have hcz20_0 := bc0 BK533.out; have hcz20_1 := bc1 BK533.out; have hcz20_2 := bc2 BK533.out; have hfz20_0 := blk_frozen BK533.out 0; have hfz20_1 := blk_frozen BK533.out 1; have hfz20_2 := blk_frozen BK533.out 2; have hcz21_0 := bc0 BK534.out; have hcz21_1 := bc1 BK534.out; have hcz21_2 := bc2 BK534.out; have hfz21_0 := blk_frozen BK534.out 0; have hfz21_1 := blk_frozen BK534.out 1; have hfz21_2 := blk_frozen BK534.out 2) | ((with_reducible refine gate_callee (f := 23) rfl ?_); refine goesL_ (some 9) rfl rfl Tryz.func23 (by kernel_rfl) rfl #[.slice A0_0 l0_0.length c0_0, .slice A1_0 l1_0.length c1_0] rfl qba17 ?_; (with_reducible refine (slices_Equal_string_string.calls k _ _ l0_0 _ _ l1_0 false _ ?side1 ?side2 ?side3 ?side4 A3.out).mono ?_); (case side1 => exact qba10); (case side2 => exact HC0_0.out); (case side3 => exact qba12); (case side4 => exact HC1_0.out); rintro e w' ⟨rfl, ⟨nd, rfl⟩⟩; refine ⟨_, rfl, ?_⟩))
  go_ret
  exact ⟨by first | rfl | (simp [errW_none, errW_some] <;> rfl) | (simp [*, errW_none, errW_some] <;> rfl), by repeat (first | (with_reducible first | exact HB.out | apply below_alloc | apply pw_below_drewN | apply below_drew1 | refine below_set ?_ GE533.out | refine below_set ?_ GE534.out) | exact HB.out)⟩

end Go.Proofs.YtbfndlfemhidaaaGreatDoor.P
