/- Texts of this seat in one (Px10), what nothing speaks of left out: by pack.py, a program of this session. -/
import Derived.Test.YtbfndlfemhidaaaGreatDoorPx0
import Derived.Test.YtbfndlfemhidaaaGreatDoorPx2
import Derived.Test.YtbfndlfemhidaaaGreatDoorPx3
namespace Go.Proofs.YtbfndlfemhidaaaGreatDoor.P
open Go.RowKit Go.Proofs.YtbfndlfemhidaaaGreatDoor.LexP Go.Proofs.YtbfndlfemhidaaaGreatDoorW.PrintWords Go.Proofs.YtbfndlfemhidaaaGreatDoorW.PrintLast Go.Proofs.YtbfndlfemhidaaaGreatDoorW.PrintMore
theorem qbc2 {P : Prop} (h : P := by first | (with_reducible assumption) | assumption) : P := h
theorem qbc1 {P : Prop} (h : P := by repeat (first | (with_reducible first | exact HB.out | apply below_alloc | apply pw_below_drewN | apply below_drew1) | exact HB.out)) : P := h
theorem qbc0 {P : Prop} (h : P := by repeat (first | (with_reducible first | exact HB.out | apply below_alloc | apply pw_below_drewN | apply below_drew1 | refine below_set ?_ GE567.out) | exact HB.out)) : P := h
attribute [local go_sem] max2_int min2_int max_two min_two max_three min_three max_four min_four   -- for this text's walks alone
set_option linter.unusedVariables false
set_option linter.unusedSimpArgs false

attribute [local go_sem high] eqA61

section
open Go.Proofs.YtbfndlfemhidaaaGreatDoor.LexW Go.Proofs.YtbfndlfemhidaaaGreatDoor.Lex
def toS (x : Tok) : S61 := ⟨(x.k : Int), ⟨x.t.toArray⟩, x.n⟩
def strLen : Value → Nat
 | .string s => s.size
 | _ => 0
theorem toList_data (s : ByteArray) : s.toList = s.data.toList := ByteArray.toList_eq s
theorem nonempty_of (s : ByteArray) (h : 0 < s.size) : (s.toList != ([] : List UInt8)) = true ∧ s.toList.isEmpty = false := by
 have : s.data.toList ≠ [] := fun e => by have := LexW.size_data s; rw [e] at this; simp at this; omega
 rw [toList_data]
 exact ⟨bne_iff_ne.2 this, by cases h : s.data.toList <;> simp_all⟩
theorem empty_of (s : ByteArray) (h : ¬ 0 < s.size) : (s.toList != ([] : List UInt8)) = false ∧ s.toList.isEmpty = true := by
 have : s.data.toList = [] := List.eq_nil_of_length_eq_zero (by have := LexW.size_data s; omega)
 rw [toList_data, this]
 exact ⟨rfl, rfl⟩
theorem infoT : (Tryz.prog.info? 61).map (fun i => (i.zero, i.size, i.bytes)) = some (some (.agg #[.int .u8 0, .string ⟨#[]⟩, .int .i64 0]), 3, 32) := by kernel_rfl
theorem r_ok {W : World} {base g : Nat} {v : Value} {xs : List S61} (h : Kd.R k61 61 W base (fun _ => True) v xs) (hk : ∀ k, v.ownBlock = some k → k ≠ g) : Kd.R k61 61 W base (fun k => k ≠ g) v xs :=
 Kd.R_mono (Kd.R_far1 h rfl (g := g) (fun e => hk g e.symm rfl)) (fun _ h => h.2)
set_option maxHeartbeats 4000000 in
set_option maxRecDepth 100000 in
theorem tokens_calls (s : ByteArray) (hs : s.size ≤ 1000000000) (w : World) (hE : LexE w) : Calls Tryz.prog 25 #[.string s] w fun e w' =>
  ∃ v0_ : Value, e = .returned (.tuple #[v0_, .int .i64 ((tokensL s.data.toList).2 : Nat)]) ∧ Kd.R k61 61 w' w.heap.size (fun _ => True) v0_ ((tokensL s.data.toList).1.map toS) ∧ Below w.heap.size w w' := by
 have HE := Aside0.mk hE
 clear hE
 have hsd := LexW.size_data s
 obtain ⟨res, hres⟩ : ∃ r, r = tokensL s.data.toList := ⟨_, rfl⟩
 rw [← hres]
 by_cases hbig : 256 < s.size
 ·
  have d1 : decide ((256 : Int) < (s.size : Int)) = true := decide_eq_true (by omega)
  have hr : res = ([], 3) := by rw [hres]; unfold tokensL; exact if_pos (by omega)
  subst hr
  clear hres hbig
  go_enter Tryz.func25, Tryz.ntmps25
  go_wp2
  go_step3
  go_wp2
  rw [Exit.noGoto_ret]
  go_ret2
  exact ⟨_, rfl, Kd.R_nil _ _ _ _ _, Below.refl _ _⟩
 have d1 : decide ((256 : Int) < (s.size : Int)) = false := decide_eq_false (by omega)
 have hr : toksL s.size s.data.toList [] = res := by rw [hres]; unfold tokensL; rw [if_neg (by omega), hsd]
 have RES := Aside0.mk hr
 clear hr hres
 go_enter Tryz.func25, Tryz.ntmps25
 go_wp2
 go_step3
 go_wp2
 go_step3
 go_wp2
 clear d1
 go_loopw [0, 4] (fun v0 v4 wx => ∃ (t : ByteArray) (out : List Tok), v0 = .string t ∧ Aside0 (t.size ≤ 256 ∧ toksL t.size t.data.toList out = res) ∧ Aside0 (Kd.R k61 61 wx w.heap.size (fun _ => True) v4 (out.map toS)) ∧ Aside0 (out.length ≤ 64) ∧ Aside0 (Below w.heap.size w wx)) (fun v0 _ _ => strLen v0)
 case atStart => exact ⟨s, [], rfl, ⟨by omega, RES.out⟩, ⟨Kd.R_nil _ _ _ _ _⟩, ⟨by simp⟩, ⟨Below.refl _ _⟩⟩
 case round =>
  clear RES hsd hbig hs
  obtain ⟨t, out, rfl, HK, HR, HO, HB⟩ := hrel
  by_cases h0 : 0 < t.size
  ·
   obtain ⟨n1, n2⟩ := nonempty_of t h0
   obtain ⟨A4, q4, rfl⟩ := Kd.R_slice HR.out
   have HR0 := HR.out
   clear HR
   generalize hm : (out.map toS).length = m at *
   have HR := Aside0.mk HR0
   have HM := Aside0.mk (show m = out.length by rw [← hm]; exact List.length_map ..)
   clear hm HR0
   have hlen : out.length ≤ 64 := HO.out
   have hq := HK.out.2
   have hl : t.data.toList = t[0] :: t.data.toList.drop 1 := by rw [← drop_at t 0 h0]; rfl
   have p1 : (1 : Int) ≤ (t.size : Int) := by omega
   have p0 : (0 : Int) < (t.size : Int) := by omega
   obtain ⟨N, hN⟩ : ∃ N, t.size = N + 1 := ⟨t.size - 1, by omega⟩
   rw [hN] at hq
   rw [hl, toksL] at hq
   by_cases h32 : t[0] = 32 ∨ t[0] = 9
   ·
    rw [if_pos h32] at hq
    have he : (t.extract 1 t.size).data.toList = t.data.toList.drop 1 := by rw [LexW.extract_list, List.take_of_length_le (by rw [LexW.size_data]; exact Nat.le_refl _)]
    have hz : (t.extract 1 t.size).size = N := by rw [← LexW.size_data, he, List.length_drop, LexW.size_data]; omega
    have HQ := Aside0.mk (show (t.extract 1 t.size).size ≤ 256 ∧ toksL (t.extract 1 t.size).size (t.extract 1 t.size).data.toList out = res from ⟨by have := HK.out.1; omega, by rw [hz, he]; exact hq⟩)
    have HZ := Aside0.mk (show (t.extract 1 t.size).size < t.size by omega)
    clear hq he hz hl hN
    by_cases h9 : t[0] = 32
    ·
     have e1 := u8_is h9 (n := 32) rfl
     clear h32 h9
     go_wp2
     go_roundw
     case rel => exact ⟨t.extract 1 t.size, out, rfl, HQ, HR, HO, HB⟩
     case measure => exact HZ.out
    ·
     have e1 := u8_not h9 (n := 32) rfl
     have e2 := u8_is (h32.resolve_left h9) (n := 9) rfl
     clear h32 h9
     go_wp2
     go_roundw
     case rel => exact ⟨t.extract 1 t.size, out, rfl, HQ, HR, HO, HB⟩
     case measure => exact HZ.out
   rw [if_neg h32] at hq
   have e1 := u8_not (fun h => h32 (.inl h)) (c := t[0]) (d := 32) (n := 32) rfl
   have e2 := u8_not (fun h => h32 (.inr h)) (c := t[0]) (d := 9) (n := 9) rfl
   by_cases h35 : t[0] = 35
   ·
    have e3 := u8_is h35 (n := 35) rfl
    rw [if_pos h35] at hq
    have HQ := Aside0.mk hq
    clear hq h32 h35 hl hN
    go_wp2
    rw [Exit.noGoto_ret]
    go_ret2
    exact ⟨_, by rw [← HQ.out]; rfl, by rw [← HQ.out]; exact HR.out, HB.out⟩
   rw [if_neg h35, ← hl] at hq
   have e3 := u8_not h35 (n := 35) rfl
   have cN := fun w hE => next_calls t (by have := HK.out.1; omega) h0 w hE
   have hnl := next_le t.data.toList
   rw [LexW.size_data] at hnl
   generalize nextL t.data.toList = u at cN hq hnl
   obtain ⟨x, n⟩ := u
   simp only [tokV] at cN hq hnl
   clear h32 h35 hl
   by_cases hn0 : n = 0
   ·
    have f0 : ((n : Int) == 0) = true := beq_iff_eq.2 (by omega)
    rw [if_pos hn0] at hq
    have HQ := Aside0.mk hq
    clear hq hN hn0 hnl
    go_wp2_with (go_at_call 43; refine (cN _ (HE.out.below HB.out)).mono ?_; rintro e w1 ⟨rfl, hb⟩; have HB2 := Aside0.mk (below_step HB.out hb); clear hb)
    go_wp2_with (first | (go_at_call 43; refine (cN _ (HE.out.below HB.out)).mono ?_; rintro e w1 ⟨rfl, hb⟩; have HB2 := Aside0.mk (below_step HB.out hb); have HR2 := Aside0.mk (Kd.R_below HR.out hb); clear hb) | ((with_reducible refine gate_dst (N := 5) rfl ?_); refine box_event ?hg (N := 5) ?hd (cs := #[.int .u8 0, .string (⟨#[]⟩ : ByteArray), .int .i64 0]) (t := 61) ?hr ?_; (case hd => rfl); (case hg => rfl); (case hr => first | (go_simp; done) | (go_simp; rfl)); intro g hg w2 hbox hb; have HB3 : Aside0 (Below w.heap.size w w2) := ⟨below_step HB2.out hb⟩; have BK := Aside0.mk hbox; have GE : Aside0 (w.heap.size ≤ g) := ⟨by rw [hg]; exact below_size HB2.out⟩; have HR3 := Aside0.mk (Kd.R_below HR2.out hb); have NG : Aside0 (∀ k, (Value.slice A4 m q4).ownBlock = some k → k ≠ g) := ⟨fun k hk => by rw [hg]; exact Nat.ne_of_lt (Kd.R_lt HR2.out k hk)⟩; obtain ⟨c0_, c1_, c2_, f0_, f1_, f2_⟩ := box3 BK.out; clear hb hbox hg))
    rw [Exit.noGoto_ret]
    go_ret2
    exact ⟨_, by rw [← HQ.out]; rfl, by rw [← HQ.out]; exact Kd.R_nil _ _ _ _ _, by first | exact below_set (below_set (below_set HB3.out GE.out) GE.out) GE.out | exact below_alloc HB2.out _⟩
   have f0 : ((n : Int) == 0) = false := beq_eq_false_iff_ne.2 (by omega)
   rw [if_neg hn0] at hq
   by_cases h64 : out.length = 64
   ·
    have g0 : ((m : Int) == 64) = true := beq_iff_eq.2 (by rw [HM.out]; omega)
    rw [if_pos h64] at hq
    have HQ := Aside0.mk hq
    clear hq hN hn0 hnl h64 hlen
    go_wp2_with (first | (go_at_call 43; refine (cN _ (HE.out.below HB.out)).mono ?_; rintro e w1 ⟨rfl, hb⟩; have HB2 := Aside0.mk (below_step HB.out hb); have HR2 := Aside0.mk (Kd.R_below HR.out hb); clear hb) | ((with_reducible refine gate_dst (N := 5) rfl ?_); refine box_event ?hg (N := 5) ?hd (cs := #[.int .u8 0, .string (⟨#[]⟩ : ByteArray), .int .i64 0]) (t := 61) ?hr ?_; (case hd => rfl); (case hg => rfl); (case hr => first | (go_simp; done) | (go_simp; rfl)); intro g hg w2 hbox hb; have HB3 : Aside0 (Below w.heap.size w w2) := ⟨below_step HB2.out hb⟩; have BK := Aside0.mk hbox; have GE : Aside0 (w.heap.size ≤ g) := ⟨by rw [hg]; exact below_size HB2.out⟩; have HR3 := Aside0.mk (Kd.R_below HR2.out hb); have NG : Aside0 (∀ k, (Value.slice A4 m q4).ownBlock = some k → k ≠ g) := ⟨fun k hk => by rw [hg]; exact Nat.ne_of_lt (Kd.R_lt HR2.out k hk)⟩; obtain ⟨c0_, c1_, c2_, f0_, f1_, f2_⟩ := box3 BK.out; clear hb hbox hg))
    rw [Exit.noGoto_ret]
    go_ret2
    exact ⟨_, by rw [← HQ.out]; rfl, by rw [← HQ.out]; exact Kd.R_nil _ _ _ _ _, by first | exact below_set (below_set (below_set HB3.out GE.out) GE.out) GE.out | exact below_alloc HB2.out _⟩
   have g0 : ((m : Int) == 64) = false := beq_eq_false_iff_ne.2 (by rw [HM.out]; omega)
   rw [if_neg h64] at hq
   have HQ := Aside0.mk hq
   have HL := Aside0.mk (show out.length ≤ 63 by omega)
   have nle : (n : Int) ≤ (t.size : Int) := by omega
   have HN := Aside0.mk hN
   have H0 := Aside0.mk hn0
   clear hq hN hn0 h64 hlen
   go_wp2_with (first | (go_at_call 43; refine (cN _ (HE.out.below HB.out)).mono ?_; rintro e w1 ⟨rfl, hb⟩; have HB2 := Aside0.mk (below_step HB.out hb); have HR2 := Aside0.mk (Kd.R_below HR.out hb); clear hb) | ((with_reducible refine gate_dst (N := 5) rfl ?_); refine box_event ?hg (N := 5) ?hd (cs := #[.int .u8 0, .string (⟨#[]⟩ : ByteArray), .int .i64 0]) (t := 61) ?hr ?_; (case hd => rfl); (case hg => rfl); (case hr => first | (go_simp; done) | (go_simp; rfl)); intro g hg w2 hbox hb; have HB3 : Aside0 (Below w.heap.size w w2) := ⟨below_step HB2.out hb⟩; have BK := Aside0.mk hbox; have GE : Aside0 (w.heap.size ≤ g) := ⟨by rw [hg]; exact below_size HB2.out⟩; have HR3 := Aside0.mk (Kd.R_below HR2.out hb); have NG : Aside0 (∀ k, (Value.slice A4 m q4).ownBlock = some k → k ≠ g) := ⟨fun k hk => by rw [hg]; exact Nat.ne_of_lt (Kd.R_lt HR2.out k hk)⟩; obtain ⟨c0_, c1_, c2_, f0_, f1_, f2_⟩ := box3 BK.out; clear hb hbox hg))
   have BK4 := Aside0.mk (blk_put (cs' := #[.int .u8 (x.k : Int), .string (⟨x.t.toArray⟩ : ByteArray), .int .i64 x.n]) (blk_put (cs' := #[.int .u8 (x.k : Int), .string (⟨x.t.toArray⟩ : ByteArray), .int .i64 0]) (blk_put (cs' := #[.int .u8 (x.k : Int), .string (⟨#[]⟩ : ByteArray), .int .i64 0]) BK.out 0 (.int .u8 (x.k : Int)) rfl) 1 (.string (⟨x.t.toArray⟩ : ByteArray)) rfl) 2 (.int .i64 x.n) rfl)
   have HB4 := Aside0.mk (below_set (j := 2) (v := .int .i64 x.n) (below_set (j := 1) (v := .string (⟨x.t.toArray⟩ : ByteArray)) (below_set (j := 0) (v := .int .u8 (x.k : Int)) HB3.out GE.out) GE.out) GE.out)
   have HR4 := Aside0.mk (Kd.R_far (p := ⟨g, 2, none⟩) (Kd.R_far (p := ⟨g, 1, none⟩) (Kd.R_far (p := ⟨g, 0, none⟩) (r_ok HR3.out NG.out) (fun _ h => h) (.int .u8 (x.k : Int))) (fun _ h => h) (.string (⟨x.t.toArray⟩ : ByteArray))) (fun _ h => h) (.int .i64 x.n))
   obtain ⟨w3, hw3⟩ : ∃ W, W = ((w2.setCell ⟨g, 0, none⟩ (.int .u8 (x.k : Int))).setCell ⟨g, 1, none⟩ (.string (⟨x.t.toArray⟩ : ByteArray))).setCell ⟨g, 2, none⟩ (.int .i64 x.n) := ⟨_, rfl⟩
   rw [← hw3] at BK4 HB4 HR4 ⊢
   clear hw3 BK HB3 HR3 c0_ c1_ c2_ f0_ f1_ f2_ HR2 HB2 HR HB
   obtain ⟨c0_, c1_, c2_, f0_, f1_, f2_⟩ := box3 BK4.out
   go_region_law (first | (refine Kd.R_append_step k61 (w0 := w) (W := w3.drew) w.heap.size (by rfl) (.tmp 31) (.tmp 33) 46 61 (.agg #[.int .u8 0, .string ⟨#[]⟩, .int .i64 0]) 32 rfl Tryz.underlying46 infoT rfl (by decide) (by omega) (.slice A4 m q4) (out.map toS) (toS x) [.int .u8 (x.k : Int), .string ⟨x.t.toArray⟩, .int .i64 x.n] (fun k => k ≠ g) (fun _ => False) rfl rfl ?aP (fun _ hk => hk.elim) ?aF ?aO ?aB ?aS ?aL ?_; (case aP => exact k61_mkM _ _ _ (toS x)); (case aF => exact fun k hk => by have := blk_lt BK4.out; simp at hk; omega); (case aO => exact Kd.R_drewN HR4.out 1); (case aB => exact pw_below_drewN HB4.out 1); (case aS => exact (show w.heap.size ≤ w3.heap.size from below_size HB4.out)); (case aL => have := HL.out; have := HM.out; rw [List.length_map]; omega); intro v7 w7 ho hb7 hg7 _; have HR7 := Aside0.mk ho; have HB7 := Aside0.mk hb7; clear ho hb7 hg7))
   all_goals
    simp only [Act.put, List.getElem_toArray, List.getElem_cons_succ, List.getElem_cons_zero, List.setIfInBounds_toArray, List.set_cons_zero, List.set_cons_succ]
    go_wp2
    go_roundw
    case rel =>
     have he : (t.extract n t.size).data.toList = t.data.toList.drop n := by rw [LexW.extract_list, List.take_of_length_le (by rw [LexW.size_data]; exact Nat.le_refl _)]
     have hz : (t.extract n t.size).size = t.size - n := by rw [← LexW.size_data, he, List.length_drop, LexW.size_data]
     have hN := HN.out
     refine ⟨t.extract n t.size, out ++ [x], rfl, ⟨by have := HK.out.1; omega, ?_⟩, ⟨by rw [List.map_append]; exact Kd.R_mono HR7.out (fun _ _ => trivial)⟩, ⟨by rw [List.length_append]; have := HL.out; simp; omega⟩, HB7⟩
     rw [he, hz]
     rw [← HQ.out]
     exact toks_fuel _ _ _ _ (by rw [List.length_drop, LexW.size_data]; exact Nat.le_refl _) (by rw [List.length_drop, LexW.size_data]; have := H0.out; omega)
    case measure =>
     have he : (t.extract n t.size).data.toList = t.data.toList.drop n := by rw [LexW.extract_list, List.take_of_length_le (by rw [LexW.size_data]; exact Nat.le_refl _)]
     have hz : (t.extract n t.size).size = t.size - n := by rw [← LexW.size_data, he, List.length_drop, LexW.size_data]
     show (t.extract n t.size).size < t.size
     have := H0.out
     omega
  ·
   obtain ⟨n1, n2⟩ := empty_of t h0
   have hq := HK.out.2
   have hz : t.size = 0 := by omega
   rw [hz, toksL] at hq
   have HQ := Aside0.mk hq
   clear hq hz
   go_wp2
   rw [Exit.noGoto_ret]
   go_ret2
   exact ⟨_, by rw [← HQ.out]; rfl, by rw [← HQ.out]; exact HR.out, HB.out⟩
end
def lex_Tokens.f (a0 : ByteArray) : Option (List S61 × Int) := if a0.size ≤ 1000000000 then some ((Lex.tokensL a0.data.toList).1.map toS, (((Lex.tokensL a0.data.toList).2 : Nat) : Int)) else none
theorem lex_Tokens.calls (a0 : ByteArray) (r1 : List S61) (r2 : Int) (w : World) (hE : LexW.LexE w) (h : lex_Tokens.f a0 = some (r1, r2)) :
  Calls Tryz.prog 25 #[.string a0] w fun e w' => ∃ v0_ : Value, e = .returned (.tuple #[v0_, .int .i64 r2]) ∧ Kd.R k61 61 w' w.heap.size (fun _ => True) v0_ r1 ∧ Below w.heap.size w w' := by
 unfold lex_Tokens.f at h
 by_cases c : a0.size ≤ 1000000000
 ·
  rw [if_pos c] at h
  cases h
  exact tokens_calls a0 c w hE
 ·
  rw [if_neg c] at h
  cases h

def expr_Parse_1.f (k : Nat) (a0_0 : Int) (a0_1 : ByteArray) (a0_2 : Int) : Option (Bool) := (lex_Check.f k a0_0 a0_1 a0_2).bind fun t568 => (some (t568 != 0))
set_option maxHeartbeats 8000000 in
set_option maxRecDepth 100000 in
theorem expr_Parse_1.calls (k : Nat) (a0_0 : Int) (a0_1 : ByteArray) (a0_2 : Int) (r : Bool) (w : World) (hT : Lib.TabIs Tryz.prog w "internal/strconv.uint64pow10" .u64 Lib.pow10Tab) (hD : LexW.LexD w) (h : expr_Parse_1.f k a0_0 a0_1 a0_2 = some r) :
  Calls Tryz.prog 110 #[.agg #[.int .u8 a0_0, .string a0_1, .int .i64 a0_2]] w fun e w' => e = .returned (.bool r) ∧ Below w.heap.size w w' := by
 have hu61 := Tryz.underlying61
 have HT := Aside0.mk hT
 clear hT
 have HD_ := Aside0.mk hD
 clear hD
 have HB := Aside0.mk (Below.refl w.heap.size w)
 have H : ((lex_Check.f k a0_0 a0_1 a0_2).bind fun t568 => (some (t568 != 0))) = some r := h
 clear h
 replace H := Option.bind_eq_some_iff.mp H
 obtain ⟨t568, A20, H⟩ := H
 replace H : (some (t568 != 0)) = some r := H
 have A2 := Aside0.mk A20
 clear A20
 obtain rfl := Option.some.inj H
 go_enter Tryz.func110, Tryz.ntmps110
 go_wp2_with (first | ((with_reducible refine gate_dst (N := 1) rfl ?_); refine box_event ?hg (N := 1) ?hd (cs := #[.int .u8 a0_0, .string a0_1, .int .i64 a0_2]) (t := 61) ?hr ?_; (case hd => rfl); (case hg => rfl); (case hr => first | (go_simp; done) | (go_simp; rfl)); intro gb567 hg w3 hbox hb; have n0_ := Aside0.mk (below_step qbc1 hb); have n1_ := Aside0.mk (hbox); have n2_ := Aside0.mk ((by rw [hg]; exact (below_size qbc1) : w.heap.size ≤ gb567)); have n3_ := Aside0.mk ((by rw [hg]; exact (below_size qbc1) : w.heap.size ≤ gb567)); clear HB; have HB := n0_; have BK567 := n1_; have GW567 := n2_; have GE567 := n3_; clear n0_ n1_ n2_ n3_; clear hb hbox hg; have hcz4_0 := bc0 BK567.out; have hcz4_1 := bc1 BK567.out; have hcz4_2 := bc2 BK567.out; have hfz4_0 := blk_frozen BK567.out 0; have hfz4_1 := blk_frozen BK567.out 1; have hfz4_2 := blk_frozen BK567.out 2) | ((with_reducible refine gate_callee (f := 49) rfl ?_); refine goesL_ (some 4) rfl rfl Tryz.func49 (by kernel_rfl) rfl #[.agg #[.int .u8 a0_0, .string a0_1, .int .i64 a0_2]] rfl (by (try simp only [List.map_toArray, List.map_cons, List.map_nil]); first | done | rfl | (simp only [List.length_drop, List.length_take]; rfl)) ?_; (with_reducible refine (lex_Check.calls k a0_0 a0_1 a0_2 t568 _ ?side1 ?side2 A2.out).mono ?_); (case side1 => exact Lib.tabBelow_of_tabIs HT.out _ qbc0); (case side2 => exact HD_.out.below qbc0); rintro e w5 ⟨rfl, hb⟩; refine ⟨_, rfl, ?_⟩; have n0_ := Aside0.mk (blk_below (g := gb567) (o := .cells #[.int .u8 a0_0, .string a0_1, .int .i64 a0_2] 61 (0, 0)) (by (with_reducible repeat (first | refine blk_drewN ?_ _ | refine blk_drew ?_ | refine blk_alloc ?_ _)); exact BK567.out) hb); have n1_ := Aside0.mk (below_step qbc0 hb); clear BK567; clear HB; have BK567 := n0_; have HB := n1_; clear n0_ n1_; (try clear hb); (try clear hb2); (try clear hk); (try clear hi)))
 go_ret
 exact ⟨by first | rfl | (simp [errW_none, errW_some] <;> rfl) | (simp [*, errW_none, errW_some] <;> rfl), by repeat (first | (with_reducible first | exact HB.out | apply below_alloc | apply pw_below_drewN | apply below_drew1 | refine below_set ?_ GE567.out) | exact HB.out)⟩

def IsS134 (w0 W : World) (g : Nat) (f0 : List (S61)) (f1 : Int) : Prop := ∃ A0 c0, W.heap[g]? = some (.cells #[.slice A0 f0.length c0, .int .i64 f1] 134 (0, 0)) ∧ w0.heap.size ≤ g ∧ Kd.C k61 w0 A0 f0.length f0
theorem IsS134.grown {w0 W : World} {g : Nat} {f0 : List (S61)} {f1 : Int} {W1 : World} {row : Option Nat} (h : IsS134 w0 W g f0 f1) (hw : W.grownBy W1 row) (hne : some g ≠ row) : IsS134 w0 W1 g f0 f1 := by
 obtain ⟨A0, c0, hb, hg, hr0⟩ := h
 exact ⟨A0, c0, blk_grown hb hw hne, hg, hr0⟩
theorem IsS134.kept {w0 W : World} {g : Nat} {f0 : List (S61)} {f1 : Int} {W1 : World} {S : Nat → Prop} (h : IsS134 w0 W g f0 f1) (hk : Kept W W1 S) (hne : ¬ S g) : IsS134 w0 W1 g f0 f1 := by
 obtain ⟨A0, c0, hb, hg, hr0⟩ := h
 exact ⟨A0, c0, blk_kept hb hk hne, hg, hr0⟩
theorem IsS134.below {w0 W : World} {g : Nat} {f0 : List (S61)} {f1 : Int} {W1 : World} (h : IsS134 w0 W g f0 f1) (hw : Below W.heap.size W W1) : IsS134 w0 W1 g f0 f1 := h.grown (grown_of_below hw none) (by simp)
theorem IsS134.alloc {w0 W : World} {g : Nat} {f0 : List (S61)} {f1 : Int} (h : IsS134 w0 W g f0 f1) (o : Obj) : IsS134 w0 (W.alloc o) g f0 f1 := h.below (below_alloc (Below.refl _ _) o)
theorem IsS134.drewN {w0 W : World} {g : Nat} {f0 : List (S61)} {f1 : Int} (h : IsS134 w0 W g f0 f1) (m : Nat) : IsS134 w0 (W.drewN m) g f0 f1 := h
theorem IsS134.drew {w0 W : World} {g : Nat} {f0 : List (S61)} {f1 : Int} (h : IsS134 w0 W g f0 f1) : IsS134 w0 W.drew g f0 f1 := h
theorem IsS134.at_ {w0 W : World} {g : Nat} {f0 : List (S61)} {f1 : Int} {w' : World} {m : Nat} (hq : W.drewN m = w') (h : IsS134 w0 W g f0 f1) : IsS134 w0 w' g f0 f1 := by subst hq; exact IsS134.drewN h m
theorem IsS134.apart {w0 W : World} {g : Nat} {f0 : List (S61)} {f1 : Int} {α : Type} {d : Kd α} {e : Nat} {base : Nat} {ok : Nat → Prop} {v : Value} {xs : List α} (h : IsS134 w0 W g f0 f1) (ho : d.R e W base ok v xs) (ht : ∀ q, q ∈ e :: d.E → q ≠ 134) : d.R e W base (fun k => ok k ∧ k ≠ g) v xs := by
 obtain ⟨A0, c0, hb, hg, hr0⟩ := h
 exact Kd.R_types ho hb ht
theorem IsS134.own_ne {w0 W : World} {g : Nat} {f0 : List (S61)} {f1 : Int} {α : Type} {d : Kd α} {e : Nat} {base : Nat} {ok : Nat → Prop} {v : Value} {xs : List α} (h : IsS134 w0 W g f0 f1) (ho : d.R e W base ok v xs) (ht : e ≠ 134) : some g ≠ v.ownBlock := by
 obtain ⟨A0, c0, hb, hg, hr0⟩ := h
 exact Kd.R_ne ho hb ht
theorem IsS134.lt {w0 W : World} {g : Nat} {f0 : List (S61)} {f1 : Int} (h : IsS134 w0 W g f0 f1) : g < W.heap.size := by
 obtain ⟨A0, c0, hb, hg, hr0⟩ := h
 exact blk_lt hb
theorem IsS134.ge {w0 W : World} {g : Nat} {f0 : List (S61)} {f1 : Int} (h : IsS134 w0 W g f0 f1) : w0.heap.size ≤ g := by
 obtain ⟨A0, c0, hb, hg, hr0⟩ := h
 exact hg
theorem cellS134_0 {W : World} {g : Nat} {A0 : Option Addr} {c0 : Nat} {f0 : List (S61)} {f1 : Int} (h : W.heap[g]? = some (.cells #[.slice A0 f0.length c0, .int .i64 f1] 134 (0, 0))) : W.cell? ⟨g, 0, none⟩ = some (.slice A0 f0.length c0) := (blk_cell h 0).trans rfl
theorem cellS134_1 {W : World} {g : Nat} {A0 : Option Addr} {c0 : Nat} {f0 : List (S61)} {f1 : Int} (h : W.heap[g]? = some (.cells #[.slice A0 f0.length c0, .int .i64 f1] 134 (0, 0))) : W.cell? ⟨g, 1, none⟩ = some (.int .i64 f1) := (blk_cell h 1).trans rfl
theorem IsS134.set_1 {w0 W : World} {g : Nat} {f0 : List (S61)} {f1 : Int} (h : IsS134 w0 W g f0 f1) (x : Int) : IsS134 w0 (W.setCell ⟨g, 1, none⟩ (.int .i64 x)) g f0 x := by
 obtain ⟨A0, c0, hb, hg, hr0⟩ := h
 exact ⟨A0, c0, by simpa using blk_set hb 1 (.int .i64 x), hg, hr0⟩
def expr_reader_mark.f (s0_0 : List (S61)) (s0_1 : Int) (a1 : ByteArray) : Option (Bool × Int) := if s0_1 < (s0_0.length : Int) then (if 0 ≤ s0_1 then (if (((rd_T61 s0_0 s0_1).f0) == 4 && ((((rd_T61 s0_0 s0_1).f1).toList) == a1.toList && (((rd_T61 s0_0 s0_1).f2) == 0))) = true then (some ((((rd_T61 s0_0 s0_1).f0) == 4 && ((((rd_T61 s0_0 s0_1).f1).toList) == a1.toList && (((rd_T61 s0_0 s0_1).f2) == 0))), wrap64 (s0_1 + 1))) else (some ((((rd_T61 s0_0 s0_1).f0) == 4 && ((((rd_T61 s0_0 s0_1).f1).toList) == a1.toList && (((rd_T61 s0_0 s0_1).f2) == 0))), s0_1))) else (none)) else (some (false, s0_1))
set_option maxHeartbeats 8000000 in
set_option maxRecDepth 100000 in
theorem expr_reader_mark.calls (g : Nat) (s0_0 : List (S61)) (s0_1 : Int) (a1 : ByteArray) (r1 : Bool) (r2 : Int) (w0 w : World) (hI : IsS134 w0 w g s0_0 s0_1) (hB : Below w0.heap.size w0 w) (h : expr_reader_mark.f s0_0 s0_1 a1 = some (r1, r2)) :
  Calls Tryz.prog 112 #[.pointer (some ⟨g, 0, none⟩), .string a1] w fun e w' => e = .returned (.bool r1) ∧ IsS134 w0 w' g s0_0 r2 ∧ Below w0.heap.size w0 w' ∧ KeepBut w w' g none := by
 have hu61 := Tryz.underlying61
 have HI0 := Aside0.mk hI
 have HK := Aside0.mk (KeepBut.refl w g none)
 have HL := Aside0.mk hB.size
 clear hI
 have HW0 := Aside0.mk hB.size
 have HB := Aside0.mk hB
 clear hB
 have H : (if s0_1 < (s0_0.length : Int) then (if 0 ≤ s0_1 then (if (((rd_T61 s0_0 s0_1).f0) == 4 && ((((rd_T61 s0_0 s0_1).f1).toList) == a1.toList && (((rd_T61 s0_0 s0_1).f2) == 0))) = true then (some ((((rd_T61 s0_0 s0_1).f0) == 4 && ((((rd_T61 s0_0 s0_1).f1).toList) == a1.toList && (((rd_T61 s0_0 s0_1).f2) == 0))), wrap64 (s0_1 + 1))) else (some ((((rd_T61 s0_0 s0_1).f0) == 4 && ((((rd_T61 s0_0 s0_1).f1).toList) == a1.toList && (((rd_T61 s0_0 s0_1).f2) == 0))), s0_1))) else (none)) else (some (false, s0_1))) = some (r1, r2) := h
 clear h
 by_cases c3 : s0_1 < (s0_0.length : Int)
 ·
  rw [if_pos c3] at H
  have c3b0 : decide (s0_1 < (s0_0.length : Int)) = true := decide_eq_true c3
  clear c3
  by_cases c4 : 0 ≤ s0_1
  ·
   rw [if_pos c4] at H
   have c4b0 : decide (0 ≤ s0_1) = true := decide_eq_true c4
   clear c4
   by_cases c5 : (((rd_T61 s0_0 s0_1).f0) == 4 && ((((rd_T61 s0_0 s0_1).f1).toList) == a1.toList && (((rd_T61 s0_0 s0_1).f2) == 0))) = true
   ·
    rw [if_pos c5] at H
    have c5b0 : (((rd_T61 s0_0 s0_1).f0) == 4 && ((((rd_T61 s0_0 s0_1).f1).toList) == a1.toList && (((rd_T61 s0_0 s0_1).f2) == 0))) = true := c5
    (try (have c5b1 : decide (((rd_T61 s0_0 s0_1).f0) = 4 && ((((rd_T61 s0_0 s0_1).f1).toList) == a1.toList && (((rd_T61 s0_0 s0_1).f2) == 0))) = true := by simpa using c5))
    (try (have c5b2 : (((rd_T61 s0_0 s0_1).f0) == 4 && ((((rd_T61 s0_0 s0_1).f1).toList) == a1.toList && (((rd_T61 s0_0 s0_1).f2) == 0))) = true := by simpa using c5))
    (try (have c5b3 : ((rd_T61 s0_0 s0_1).f0) = 4 ∧ (((rd_T61 s0_0 s0_1).f1).toList) = a1.toList ∧ ((rd_T61 s0_0 s0_1).f2) = 0 := by simpa using c5))
    clear c5
    simp only [Option.some.injEq, Prod.mk.injEq] at H
    obtain ⟨rfl, rfl⟩ := H
    obtain ⟨ASz6_0, cSz6_0, HGz6, hgz6, HSz6_0⟩ := HI0.out
    have hcz6_0 := cellS134_0 HGz6
    have hcz6_1 := cellS134_1 HGz6
    have hfz6_1 := blk_frozen HGz6 1
    clear HGz6 hgz6
    have p569 : 0 ≤ (s0_1 : Int) := of_decide_eq_true qbc2
    have q569 : s0_1 < (s0_0.length : Int) := of_decide_eq_true qbc2
    obtain ⟨ad569, e569, hx569_0, hx569_1, hx569_2⟩ := at_T61 HSz6_0 s0_1 p569 q569
    cases e569
    replace hx569_0 := pw_cell_below HB.out hx569_0
    replace hx569_1 := pw_cell_below HB.out hx569_1
    replace hx569_2 := pw_cell_below HB.out hx569_2
    replace p569 := eq_true p569
    replace q569 := eq_true q569
    go_enter Tryz.func112, Tryz.ntmps112
    go_wp2
    repeat (go_quiet (fail); try go_wp2)
    go_ret
    exact ⟨by first | rfl | (simp [errW_none, errW_some] <;> rfl) | (simp [*, errW_none, errW_some] <;> rfl), by repeat (first | (with_reducible first | exact HI0.out | apply IsS134.alloc | apply IsS134.drewN | apply IsS134.drew | apply IsS134.set_1) | exact HI0.out), by repeat (first | (with_reducible first | exact HB.out | apply below_alloc | apply pw_below_drewN | apply below_drew1 | refine below_set ?_ (IsS134.ge HI0.out)) | exact HB.out), by repeat (first | (with_reducible first | exact HK.out | apply KeepBut.set_ | apply keep_drewN | apply keep_drew | apply keep_alloc) | exact HK.out)⟩
   ·
    rw [if_neg c5] at H
    have c5b0 : (((rd_T61 s0_0 s0_1).f0) == 4 && ((((rd_T61 s0_0 s0_1).f1).toList) == a1.toList && (((rd_T61 s0_0 s0_1).f2) == 0))) = false := by simpa using c5
    (try (have c5b1 : decide (((rd_T61 s0_0 s0_1).f0) = 4 && ((((rd_T61 s0_0 s0_1).f1).toList) == a1.toList && (((rd_T61 s0_0 s0_1).f2) == 0))) = false := by simpa using c5))
    (try (have c5b2 : (((rd_T61 s0_0 s0_1).f0) == 4 && ((((rd_T61 s0_0 s0_1).f1).toList) == a1.toList && (((rd_T61 s0_0 s0_1).f2) == 0))) = false := by simpa using c5))
    (try (have c5b3 : ¬ (((rd_T61 s0_0 s0_1).f0) = 4 && ((((rd_T61 s0_0 s0_1).f1).toList) == a1.toList && (((rd_T61 s0_0 s0_1).f2) == 0))) := by simpa using c5))
    (try (have c5b4 : ¬ (((rd_T61 s0_0 s0_1).f0) = 4 ∧ (((rd_T61 s0_0 s0_1).f1).toList) = a1.toList ∧ ((rd_T61 s0_0 s0_1).f2) = 0) := by simpa using c5))
    clear c5
    simp only [Option.some.injEq, Prod.mk.injEq] at H
    obtain ⟨rfl, rfl⟩ := H
    obtain ⟨ASz7_0, cSz7_0, HGz7, hgz7, HSz7_0⟩ := HI0.out
    have hcz7_0 := cellS134_0 HGz7
    have hcz7_1 := cellS134_1 HGz7
    have hfz7_1 := blk_frozen HGz7 1
    clear HGz7 hgz7
    have p569 : 0 ≤ (s0_1 : Int) := of_decide_eq_true qbc2
    have q569 : s0_1 < (s0_0.length : Int) := of_decide_eq_true qbc2
    obtain ⟨ad569, e569, hx569_0, hx569_1, hx569_2⟩ := at_T61 HSz7_0 s0_1 p569 q569
    cases e569
    replace hx569_0 := pw_cell_below HB.out hx569_0
    replace hx569_1 := pw_cell_below HB.out hx569_1
    replace hx569_2 := pw_cell_below HB.out hx569_2
    replace p569 := eq_true p569
    replace q569 := eq_true q569
    go_enter Tryz.func112, Tryz.ntmps112
    go_wp2
    repeat (go_quiet (fail); try go_wp2)
    go_ret
    exact ⟨by first | rfl | (simp [errW_none, errW_some] <;> rfl) | (simp [*, errW_none, errW_some] <;> rfl), by repeat (first | (with_reducible first | exact HI0.out | apply IsS134.alloc | apply IsS134.drewN | apply IsS134.drew | apply IsS134.set_1) | exact HI0.out), by repeat (first | (with_reducible first | exact HB.out | apply below_alloc | apply pw_below_drewN | apply below_drew1 | refine below_set ?_ (IsS134.ge HI0.out)) | exact HB.out), by repeat (first | (with_reducible first | exact HK.out | apply KeepBut.set_ | apply keep_drewN | apply keep_drew | apply keep_alloc) | exact HK.out)⟩
  ·
   rw [if_neg c4] at H
   exact absurd H (by simp)
 ·
  rw [if_neg c3] at H
  have c3b0 : decide (s0_1 < (s0_0.length : Int)) = false := decide_eq_false c3
  clear c3
  simp only [Option.some.injEq, Prod.mk.injEq] at H
  obtain ⟨rfl, rfl⟩ := H
  obtain ⟨ASz8_0, cSz8_0, HGz8, hgz8, HSz8_0⟩ := HI0.out
  have hcz8_0 := cellS134_0 HGz8
  have hcz8_1 := cellS134_1 HGz8
  have hfz8_1 := blk_frozen HGz8 1
  clear HGz8 hgz8
  go_enter Tryz.func112, Tryz.ntmps112
  go_wp2
  repeat (go_quiet (fail); try go_wp2)
  go_ret
  exact ⟨by first | rfl | (simp [errW_none, errW_some] <;> rfl) | (simp [*, errW_none, errW_some] <;> rfl), by repeat (first | (with_reducible first | exact HI0.out | apply IsS134.alloc | apply IsS134.drewN | apply IsS134.drew | apply IsS134.set_1) | exact HI0.out), by repeat (first | (with_reducible first | exact HB.out | apply below_alloc | apply pw_below_drewN | apply below_drew1 | refine below_set ?_ (IsS134.ge HI0.out)) | exact HB.out), by repeat (first | (with_reducible first | exact HK.out | apply KeepBut.set_ | apply keep_drewN | apply keep_drew | apply keep_alloc) | exact HK.out)⟩

end Go.Proofs.YtbfndlfemhidaaaGreatDoor.P
