/- Texts of this seat in one (Px3), what nothing speaks of left out: by pack.py, a program of this session. -/
import Derived.Test.YtbfndlfemhidaaaDoorPx0
namespace Go.Proofs.YtbfndlfemhidaaaDoor.P
open Go.RowKit Go.Proofs.YtbfndlfemhidaaaDoorW.PrintWords Go.Proofs.YtbfndlfemhidaaaDoorW.PrintLast Go.Proofs.YtbfndlfemhidaaaDoorW.PrintMore
attribute [local go_sem] max2_int min2_int max_two min_two max_three min_three max_four min_four   -- for this text's walks alone
set_option linter.unusedVariables false
set_option linter.unusedSimpArgs false


def strconv_Itoa.f (a0 : Int) : Option ByteArray := if -9223372036854775808 ≤ a0 ∧ a0 ≤ 9223372036854775807 then some ⟨(Lib.itoa a0).toArray⟩ else none
theorem below_grow {w w' : World} (os : Array Obj) (h : Below w.heap.size w w') : Below w.heap.size w (Sort.grow w' os) :=
  ⟨h.os, h.tape, h.output, by have := h.size; simp [Sort.grow]; omega, fun i hi => by rw [← h.block i hi]; show (w'.heap ++ os)[i]? = _; exact Array.getElem?_append_left (Nat.lt_of_lt_of_le hi h.size)⟩
theorem strconv_Itoa.calls (a0 : Int) (r : ByteArray) (w : World) (hT : Lib.TabIs Tryd.prog w "internal/strconv.uint64pow10" .u64 Lib.pow10Tab) (h : strconv_Itoa.f a0 = some r) :
    Calls Tryd.prog 9 #[.int .i64 a0] w fun e w' => e = .returned (.string r) ∧ Below w.heap.size w w' := by
  unfold strconv_Itoa.f at h
  by_cases c : -9223372036854775808 ≤ a0 ∧ a0 ≤ 9223372036854775807
  · rw [if_pos c] at h
    cases h
    refine (Tryd.strconv_Itoa a0 c.1 c.2 w hT).mono ?_
    rintro e w' ⟨rfl, k, os, rfl⟩
    exact ⟨rfl, below_grow os (pw_below_drewN (Below.refl _ _) k)⟩
  · rw [if_neg c] at h
    cases h


section
open Go.Proofs.YtbfndlfemhidaaaDoor.LexW Go.Proofs.YtbfndlfemhidaaaDoor.Lex
def toS (x : Tok) : S53 := ⟨(x.k : Int), ⟨x.t.toArray⟩, x.n⟩
def strLen : Value → Nat
  | .string s => s.size
  | _ => 0
theorem toList_data (s : ByteArray) : s.toList = s.data.toList := ByteArray.toList_eq s
theorem nonempty_of (s : ByteArray) (h : 0 < s.size) : (s.toList != ([] : List UInt8)) = true ∧ s.toList.isEmpty = false := by
  have : s.data.toList ≠ [] := fun e => by have := LexW.size_data s; rw [e] at this; simp at this; omega
  rw [toList_data]
  exact ⟨bne_iff_ne.2 this, by cases h : s.data.toList <;> simp_all⟩
theorem empty_of (s : ByteArray) (h : ¬ 0 < s.size) : (s.toList != ([] : List UInt8)) = false ∧ s.toList.isEmpty = true := by
  have : s.data.toList = [] := List.eq_nil_of_length_eq_zero (by have := LexW.size_data s; omega)
  rw [toList_data, this]
  exact ⟨rfl, rfl⟩
theorem infoT : (Tryd.prog.info? 53).map (fun i => (i.zero, i.size, i.bytes)) = some (some (.agg #[.int .u8 0, .string ⟨#[]⟩, .int .i64 0]), 3, 32) := by kernel_rfl
theorem r_ok {W : World} {base g : Nat} {v : Value} {xs : List S53} (h : Kd.R k53 53 W base (fun _ => True) v xs) (hk : ∀ k, v.ownBlock = some k → k ≠ g) : Kd.R k53 53 W base (fun k => k ≠ g) v xs :=
  Kd.R_mono (Kd.R_far1 h rfl (g := g) (fun e => hk g e.symm rfl)) (fun _ h => h.2)
set_option maxHeartbeats 4000000 in
set_option maxRecDepth 100000 in
theorem tokens_calls (s : ByteArray) (hs : s.size ≤ 1000000000) (w : World) (hE : LexE w) : Calls Tryd.prog 13 #[.string s] w fun e w' =>
    ∃ v0_ : Value, e = .returned (.tuple #[v0_, .int .i64 ((tokensL s.data.toList).2 : Nat)]) ∧ Kd.R k53 53 w' w.heap.size (fun _ => True) v0_ ((tokensL s.data.toList).1.map toS) ∧ Below w.heap.size w w' := by
  have HE := Aside0.mk hE
  clear hE
  have hsd := LexW.size_data s
  obtain ⟨res, hres⟩ : ∃ r, r = tokensL s.data.toList := ⟨_, rfl⟩
  rw [← hres]
  by_cases hbig : 256 < s.size
  · have d1 : decide ((256 : Int) < (s.size : Int)) = true := decide_eq_true (by omega)
    have hr : res = ([], 3) := by rw [hres]; unfold tokensL; exact if_pos (by omega)
    subst hr
    clear hres hbig
    go_enter Tryd.func13, Tryd.ntmps13
    go_wp2
    go_step3
    go_wp2
    rw [Exit.noGoto_ret]
    go_ret2
    exact ⟨_, rfl, Kd.R_nil _ _ _ _ _, Below.refl _ _⟩
  have d1 : decide ((256 : Int) < (s.size : Int)) = false := decide_eq_false (by omega)
  have hr : toksL s.size s.data.toList [] = res := by rw [hres]; unfold tokensL; rw [if_neg (by omega), hsd]
  have RES := Aside0.mk hr
  clear hr hres
  go_enter Tryd.func13, Tryd.ntmps13
  go_wp2
  go_step3
  go_wp2
  go_step3
  go_wp2
  clear d1
  go_loopw [0, 4] (fun v0 v4 wx => ∃ (t : ByteArray) (out : List Tok), v0 = .string t ∧ Aside0 (t.size ≤ 256 ∧ toksL t.size t.data.toList out = res) ∧ Aside0 (Kd.R k53 53 wx w.heap.size (fun _ => True) v4 (out.map toS)) ∧ Aside0 (out.length ≤ 64) ∧ Aside0 (Below w.heap.size w wx)) (fun v0 _ _ => strLen v0)
  case atStart => exact ⟨s, [], rfl, ⟨by omega, RES.out⟩, ⟨Kd.R_nil _ _ _ _ _⟩, ⟨by simp⟩, ⟨Below.refl _ _⟩⟩
  case round =>
    clear RES hsd hbig hs
    obtain ⟨t, out, rfl, HK, HR, HO, HB⟩ := hrel
    by_cases h0 : 0 < t.size
    · obtain ⟨n1, n2⟩ := nonempty_of t h0
      obtain ⟨A4, q4, rfl⟩ := Kd.R_slice HR.out
      have HR0 := HR.out
      clear HR
      generalize hm : (out.map toS).length = m at *
      have HR := Aside0.mk HR0
      have HM := Aside0.mk (show m = out.length by rw [← hm]; exact List.length_map ..)
      clear hm HR0
      have hlen : out.length ≤ 64 := HO.out
      have hq := HK.out.2
      have hl : t.data.toList = t[0] :: t.data.toList.drop 1 := by rw [← drop_at t 0 h0]; rfl
      have p1 : (1 : Int) ≤ (t.size : Int) := by omega
      have p0 : (0 : Int) < (t.size : Int) := by omega
      obtain ⟨N, hN⟩ : ∃ N, t.size = N + 1 := ⟨t.size - 1, by omega⟩
      rw [hN] at hq
      rw [hl, toksL] at hq
      by_cases h32 : t[0] = 32 ∨ t[0] = 9
      · rw [if_pos h32] at hq
        have he : (t.extract 1 t.size).data.toList = t.data.toList.drop 1 := by rw [LexW.extract_list, List.take_of_length_le (by rw [LexW.size_data]; exact Nat.le_refl _)]
        have hz : (t.extract 1 t.size).size = N := by rw [← LexW.size_data, he, List.length_drop, LexW.size_data]; omega
        have HQ := Aside0.mk (show (t.extract 1 t.size).size ≤ 256 ∧ toksL (t.extract 1 t.size).size (t.extract 1 t.size).data.toList out = res from ⟨by have := HK.out.1; omega, by rw [hz, he]; exact hq⟩)
        have HZ := Aside0.mk (show (t.extract 1 t.size).size < t.size by omega)
        clear hq he hz hl hN
        by_cases h9 : t[0] = 32
        · have e1 := u8_is h9 (n := 32) rfl
          clear h32 h9
          go_wp2
          go_roundw
          case rel => exact ⟨t.extract 1 t.size, out, rfl, HQ, HR, HO, HB⟩
          case measure => exact HZ.out
        · have e1 := u8_not h9 (n := 32) rfl
          have e2 := u8_is (h32.resolve_left h9) (n := 9) rfl
          clear h32 h9
          go_wp2
          go_roundw
          case rel => exact ⟨t.extract 1 t.size, out, rfl, HQ, HR, HO, HB⟩
          case measure => exact HZ.out
      rw [if_neg h32] at hq
      have e1 := u8_not (fun h => h32 (.inl h)) (c := t[0]) (d := 32) (n := 32) rfl
      have e2 := u8_not (fun h => h32 (.inr h)) (c := t[0]) (d := 9) (n := 9) rfl
      by_cases h35 : t[0] = 35
      · have e3 := u8_is h35 (n := 35) rfl
        rw [if_pos h35] at hq
        have HQ := Aside0.mk hq
        clear hq h32 h35 hl hN
        go_wp2
        rw [Exit.noGoto_ret]
        go_ret2
        exact ⟨_, by rw [← HQ.out]; rfl, by rw [← HQ.out]; exact HR.out, HB.out⟩
      rw [if_neg h35, ← hl] at hq
      have e3 := u8_not h35 (n := 35) rfl
      have cN := fun w hE => next_calls t (by have := HK.out.1; omega) h0 w hE
      have hnl := next_le t.data.toList
      rw [LexW.size_data] at hnl
      generalize nextL t.data.toList = u at cN hq hnl
      obtain ⟨x, n⟩ := u
      simp only [tokV] at cN hq hnl
      clear h32 h35 hl
      by_cases hn0 : n = 0
      · have f0 : ((n : Int) == 0) = true := beq_iff_eq.2 (by omega)
        rw [if_pos hn0] at hq
        have HQ := Aside0.mk hq
        clear hq hN hn0 hnl
        go_wp2_with (go_at_call 19; refine (cN _ (HE.out.below HB.out)).mono ?_; rintro e w1 ⟨rfl, hb⟩; have HB2 := Aside0.mk (below_step HB.out hb); clear hb)
        go_wp2_with (first | (go_at_call 19; refine (cN _ (HE.out.below HB.out)).mono ?_; rintro e w1 ⟨rfl, hb⟩; have HB2 := Aside0.mk (below_step HB.out hb); have HR2 := Aside0.mk (Kd.R_below HR.out hb); clear hb) | ((with_reducible refine gate_dst (N := 5) rfl ?_); refine box_event ?hg (N := 5) ?hd (cs := #[.int .u8 0, .string (⟨#[]⟩ : ByteArray), .int .i64 0]) (t := 53) ?hr ?_; (case hd => rfl); (case hg => rfl); (case hr => first | (go_simp; done) | (go_simp; rfl)); intro g hg w2 hbox hb; have HB3 : Aside0 (Below w.heap.size w w2) := ⟨below_step HB2.out hb⟩; have BK := Aside0.mk hbox; have GE : Aside0 (w.heap.size ≤ g) := ⟨by rw [hg]; exact below_size HB2.out⟩; have HR3 := Aside0.mk (Kd.R_below HR2.out hb); have NG : Aside0 (∀ k, (Value.slice A4 m q4).ownBlock = some k → k ≠ g) := ⟨fun k hk => by rw [hg]; exact Nat.ne_of_lt (Kd.R_lt HR2.out k hk)⟩; obtain ⟨c0_, c1_, c2_, f0_, f1_, f2_⟩ := box3 BK.out; clear hb hbox hg))
        rw [Exit.noGoto_ret]
        go_ret2
        exact ⟨_, by rw [← HQ.out]; rfl, by rw [← HQ.out]; exact Kd.R_nil _ _ _ _ _, by first | exact below_set (below_set (below_set HB3.out GE.out) GE.out) GE.out | exact below_alloc HB2.out _⟩
      have f0 : ((n : Int) == 0) = false := beq_eq_false_iff_ne.2 (by omega)
      rw [if_neg hn0] at hq
      by_cases h64 : out.length = 64
      · have g0 : ((m : Int) == 64) = true := beq_iff_eq.2 (by rw [HM.out]; omega)
        rw [if_pos h64] at hq
        have HQ := Aside0.mk hq
        clear hq hN hn0 hnl h64 hlen
        go_wp2_with (first | (go_at_call 19; refine (cN _ (HE.out.below HB.out)).mono ?_; rintro e w1 ⟨rfl, hb⟩; have HB2 := Aside0.mk (below_step HB.out hb); have HR2 := Aside0.mk (Kd.R_below HR.out hb); clear hb) | ((with_reducible refine gate_dst (N := 5) rfl ?_); refine box_event ?hg (N := 5) ?hd (cs := #[.int .u8 0, .string (⟨#[]⟩ : ByteArray), .int .i64 0]) (t := 53) ?hr ?_; (case hd => rfl); (case hg => rfl); (case hr => first | (go_simp; done) | (go_simp; rfl)); intro g hg w2 hbox hb; have HB3 : Aside0 (Below w.heap.size w w2) := ⟨below_step HB2.out hb⟩; have BK := Aside0.mk hbox; have GE : Aside0 (w.heap.size ≤ g) := ⟨by rw [hg]; exact below_size HB2.out⟩; have HR3 := Aside0.mk (Kd.R_below HR2.out hb); have NG : Aside0 (∀ k, (Value.slice A4 m q4).ownBlock = some k → k ≠ g) := ⟨fun k hk => by rw [hg]; exact Nat.ne_of_lt (Kd.R_lt HR2.out k hk)⟩; obtain ⟨c0_, c1_, c2_, f0_, f1_, f2_⟩ := box3 BK.out; clear hb hbox hg))
        rw [Exit.noGoto_ret]
        go_ret2
        exact ⟨_, by rw [← HQ.out]; rfl, by rw [← HQ.out]; exact Kd.R_nil _ _ _ _ _, by first | exact below_set (below_set (below_set HB3.out GE.out) GE.out) GE.out | exact below_alloc HB2.out _⟩
      have g0 : ((m : Int) == 64) = false := beq_eq_false_iff_ne.2 (by rw [HM.out]; omega)
      rw [if_neg h64] at hq
      have HQ := Aside0.mk hq
      have HL := Aside0.mk (show out.length ≤ 63 by omega)
      have nle : (n : Int) ≤ (t.size : Int) := by omega
      have HN := Aside0.mk hN
      have H0 := Aside0.mk hn0
      clear hq hN hn0 h64 hlen
      go_wp2_with (first | (go_at_call 19; refine (cN _ (HE.out.below HB.out)).mono ?_; rintro e w1 ⟨rfl, hb⟩; have HB2 := Aside0.mk (below_step HB.out hb); have HR2 := Aside0.mk (Kd.R_below HR.out hb); clear hb) | ((with_reducible refine gate_dst (N := 5) rfl ?_); refine box_event ?hg (N := 5) ?hd (cs := #[.int .u8 0, .string (⟨#[]⟩ : ByteArray), .int .i64 0]) (t := 53) ?hr ?_; (case hd => rfl); (case hg => rfl); (case hr => first | (go_simp; done) | (go_simp; rfl)); intro g hg w2 hbox hb; have HB3 : Aside0 (Below w.heap.size w w2) := ⟨below_step HB2.out hb⟩; have BK := Aside0.mk hbox; have GE : Aside0 (w.heap.size ≤ g) := ⟨by rw [hg]; exact below_size HB2.out⟩; have HR3 := Aside0.mk (Kd.R_below HR2.out hb); have NG : Aside0 (∀ k, (Value.slice A4 m q4).ownBlock = some k → k ≠ g) := ⟨fun k hk => by rw [hg]; exact Nat.ne_of_lt (Kd.R_lt HR2.out k hk)⟩; obtain ⟨c0_, c1_, c2_, f0_, f1_, f2_⟩ := box3 BK.out; clear hb hbox hg))
      have BK4 := Aside0.mk (blk_put (cs' := #[.int .u8 (x.k : Int), .string (⟨x.t.toArray⟩ : ByteArray), .int .i64 x.n]) (blk_put (cs' := #[.int .u8 (x.k : Int), .string (⟨x.t.toArray⟩ : ByteArray), .int .i64 0]) (blk_put (cs' := #[.int .u8 (x.k : Int), .string (⟨#[]⟩ : ByteArray), .int .i64 0]) BK.out 0 (.int .u8 (x.k : Int)) rfl) 1 (.string (⟨x.t.toArray⟩ : ByteArray)) rfl) 2 (.int .i64 x.n) rfl)
      have HB4 := Aside0.mk (below_set (j := 2) (v := .int .i64 x.n) (below_set (j := 1) (v := .string (⟨x.t.toArray⟩ : ByteArray)) (below_set (j := 0) (v := .int .u8 (x.k : Int)) HB3.out GE.out) GE.out) GE.out)
      have HR4 := Aside0.mk (Kd.R_far (p := ⟨g, 2, none⟩) (Kd.R_far (p := ⟨g, 1, none⟩) (Kd.R_far (p := ⟨g, 0, none⟩) (r_ok HR3.out NG.out) (fun _ h => h) (.int .u8 (x.k : Int))) (fun _ h => h) (.string (⟨x.t.toArray⟩ : ByteArray))) (fun _ h => h) (.int .i64 x.n))
      obtain ⟨w3, hw3⟩ : ∃ W, W = ((w2.setCell ⟨g, 0, none⟩ (.int .u8 (x.k : Int))).setCell ⟨g, 1, none⟩ (.string (⟨x.t.toArray⟩ : ByteArray))).setCell ⟨g, 2, none⟩ (.int .i64 x.n) := ⟨_, rfl⟩
      rw [← hw3] at BK4 HB4 HR4 ⊢
      clear hw3 BK HB3 HR3 c0_ c1_ c2_ f0_ f1_ f2_ HR2 HB2 HR HB
      obtain ⟨c0_, c1_, c2_, f0_, f1_, f2_⟩ := box3 BK4.out
      go_region_law (first | (refine Kd.R_append_step k53 (w0 := w) (W := w3.drew) w.heap.size (by rfl) (.tmp 31) (.tmp 33) 44 53 (.agg #[.int .u8 0, .string ⟨#[]⟩, .int .i64 0]) 32 rfl Tryd.underlying44 infoT rfl (by decide) (by omega) (.slice A4 m q4) (out.map toS) (toS x) [.int .u8 (x.k : Int), .string ⟨x.t.toArray⟩, .int .i64 x.n] (fun k => k ≠ g) (fun _ => False) rfl rfl ?aP (fun _ hk => hk.elim) ?aF ?aO ?aB ?aS ?aL ?_; (case aP => exact k53_mkM _ _ _ (toS x)); (case aF => exact fun k hk => by have := blk_lt BK4.out; simp at hk; omega); (case aO => exact Kd.R_drewN HR4.out 1); (case aB => exact pw_below_drewN HB4.out 1); (case aS => exact (show w.heap.size ≤ w3.heap.size from below_size HB4.out)); (case aL => have := HL.out; have := HM.out; rw [List.length_map]; omega); intro v7 w7 ho hb7 hg7 _; have HR7 := Aside0.mk ho; have HB7 := Aside0.mk hb7; clear ho hb7 hg7))
      all_goals
        simp only [Act.put, List.getElem_toArray, List.getElem_cons_succ, List.getElem_cons_zero, List.setIfInBounds_toArray, List.set_cons_zero, List.set_cons_succ]
        go_wp2
        go_roundw
        case rel =>
          have he : (t.extract n t.size).data.toList = t.data.toList.drop n := by rw [LexW.extract_list, List.take_of_length_le (by rw [LexW.size_data]; exact Nat.le_refl _)]
          have hz : (t.extract n t.size).size = t.size - n := by rw [← LexW.size_data, he, List.length_drop, LexW.size_data]
          have hN := HN.out
          refine ⟨t.extract n t.size, out ++ [x], rfl, ⟨by have := HK.out.1; omega, ?_⟩, ⟨by rw [List.map_append]; exact Kd.R_mono HR7.out (fun _ _ => trivial)⟩, ⟨by rw [List.length_append]; have := HL.out; simp; omega⟩, HB7⟩
          rw [he, hz]
          rw [← HQ.out]
          exact toks_fuel _ _ _ _ (by rw [List.length_drop, LexW.size_data]; exact Nat.le_refl _) (by rw [List.length_drop, LexW.size_data]; have := H0.out; omega)
        case measure =>
          have he : (t.extract n t.size).data.toList = t.data.toList.drop n := by rw [LexW.extract_list, List.take_of_length_le (by rw [LexW.size_data]; exact Nat.le_refl _)]
          have hz : (t.extract n t.size).size = t.size - n := by rw [← LexW.size_data, he, List.length_drop, LexW.size_data]
          show (t.extract n t.size).size < t.size
          have := H0.out
          omega
    · obtain ⟨n1, n2⟩ := empty_of t h0
      have hq := HK.out.2
      have hz : t.size = 0 := by omega
      rw [hz, toksL] at hq
      have HQ := Aside0.mk hq
      clear hq hz
      go_wp2
      rw [Exit.noGoto_ret]
      go_ret2
      exact ⟨_, by rw [← HQ.out]; rfl, by rw [← HQ.out]; exact HR.out, HB.out⟩
end
def lex_Tokens.f (a0 : ByteArray) : Option (List S53 × Int) := if a0.size ≤ 1000000000 then some ((Lex.tokensL a0.data.toList).1.map toS, (((Lex.tokensL a0.data.toList).2 : Nat) : Int)) else none
theorem lex_Tokens.calls (a0 : ByteArray) (r1 : List S53) (r2 : Int) (w : World) (hE : LexW.LexE w) (h : lex_Tokens.f a0 = some (r1, r2)) :
    Calls Tryd.prog 13 #[.string a0] w fun e w' => ∃ v0_ : Value, e = .returned (.tuple #[v0_, .int .i64 r2]) ∧ Kd.R k53 53 w' w.heap.size (fun _ => True) v0_ r1 ∧ Below w.heap.size w w' := by
  unfold lex_Tokens.f at h
  by_cases c : a0.size ≤ 1000000000
  · rw [if_pos c] at h
    cases h
    exact tokens_calls a0 c w hE
  · rw [if_neg c] at h
    cases h

def line_plain.f (a0_0 : Int) (a0_1 : ByteArray) (a0_2 : Int) : Option (Bool) := if a0_0 = 1 then (if 0 < (a0_1.size : Int) then (if (bt a0_1 0) = 37 then (some false) else (if (bt a0_1 0) < 48 then (some true) else (some (decide ((bt a0_1 0) > 57))))) else (none)) else (some false)
set_option maxHeartbeats 8000000 in
set_option maxRecDepth 100000 in
theorem line_plain.calls (a0_0 : Int) (a0_1 : ByteArray) (a0_2 : Int) (r : Bool) (w : World) (h : line_plain.f a0_0 a0_1 a0_2 = some r) :
  Calls Tryd.prog 16 #[.agg #[.int .u8 a0_0, .string a0_1, .int .i64 a0_2]] w fun e w' => e = .returned (.bool r) ∧ Below w.heap.size w w' := by
 have hu53 := Tryd.underlying53
 have HB := Aside0.mk (Below.refl w.heap.size w)
 have H : (if a0_0 = 1 then (if 0 < (a0_1.size : Int) then (if (bt a0_1 0) = 37 then (some false) else (if (bt a0_1 0) < 48 then (some true) else (some (decide ((bt a0_1 0) > 57))))) else (none)) else (some false)) = some r := h
 clear h
 by_cases c2 : a0_0 = 1
 ·
  rw [if_pos c2] at H
  have c2b0 : (a0_0 == 1) = true := beq_iff_eq.mpr c2
  have c2b1 : (a0_0 != 1) = false := bne_eq_false_iff_eq.mpr c2
  clear c2
  by_cases c3 : 0 < (a0_1.size : Int)
  ·
   rw [if_pos c3] at H
   have c3b0 : decide (0 < (a0_1.size : Int)) = true := decide_eq_true c3
   have c3b1 : decide (0 < a0_1.size) = true := decide_eq_true (by omega)
   clear c3
   by_cases c5 : (bt a0_1 0) = 37
   ·
    rw [if_pos c5] at H
    have c5b0 : ((bt a0_1 0) == 37) = true := beq_iff_eq.mpr c5
    have c5b1 : ((bt a0_1 0) != 37) = false := bne_eq_false_iff_eq.mpr c5
    clear c5
    obtain rfl := Option.some.inj H
    go_enter Tryd.func16, Tryd.ntmps16
    go_wp2_with (first | ((with_reducible refine gate_dst (N := 1) rfl ?_); refine box_event ?hg (N := 1) ?hd (cs := #[.int .u8 a0_0, .string a0_1, .int .i64 a0_2]) (t := 53) ?hr ?_; (case hd => rfl); (case hg => rfl); (case hr => first | (go_simp; done) | (go_simp; rfl)); intro gb101 hg w6 hbox hb; have n0_ := Aside0.mk (below_step (by repeat (first | (with_reducible first | exact HB.out | apply below_alloc | apply pw_below_drewN | apply below_drew1) | exact HB.out)) hb); have n1_ := Aside0.mk (hbox); have n2_ := Aside0.mk ((by rw [hg]; exact (below_size (by repeat (first | (with_reducible first | exact HB.out | apply below_alloc | apply pw_below_drewN | apply below_drew1) | exact HB.out))) : w.heap.size ≤ gb101)); have n3_ := Aside0.mk ((by rw [hg]; exact (below_size (by repeat (first | (with_reducible first | exact HB.out | apply below_alloc | apply pw_below_drewN | apply below_drew1) | exact HB.out))) : w.heap.size ≤ gb101)); clear HB; have HB := n0_; have BK101 := n1_; have GW101 := n2_; have GE101 := n3_; clear n0_ n1_ n2_ n3_; clear hb hbox hg; have hcz7_0 : w6.cell? ⟨gb101, 0, none⟩ = some (.int .u8 a0_0) := (blk_cell BK101.out 0).trans rfl; have hcz7_1 : w6.cell? ⟨gb101, 1, none⟩ = some (.string a0_1) := (blk_cell BK101.out 1).trans rfl; have hcz7_2 : w6.cell? ⟨gb101, 2, none⟩ = some (.int .i64 a0_2) := (blk_cell BK101.out 2).trans rfl; have hfz7_0 := blk_frozen BK101.out 0; have hfz7_1 := blk_frozen BK101.out 1; have hfz7_2 := blk_frozen BK101.out 2; have p4 : 0 ≤ (0 : Int) := (by omega); have q4 : 0 < a0_1.size := (by have : (0 : Int) < (a0_1.size : Int) := of_decide_eq_true (by first | (with_reducible assumption) | assumption); omega); have hx4 : ∀ h : 0 < a0_1.size, ((a0_1[0]'h).toNat : Int) = bt a0_1 0 := bt_at a0_1 0; clear p4; have qi4 : (0 < (a0_1.size : Int)) = True := eq_true (of_decide_eq_true (by first | (with_reducible assumption) | assumption)); replace q4 := eq_true q4))
    go_ret
    exact ⟨by first | rfl | (simp [errW_none, errW_some] <;> rfl) | (simp [*, errW_none, errW_some] <;> rfl), by repeat (first | (with_reducible first | exact HB.out | apply below_alloc | apply pw_below_drewN | apply below_drew1 | refine below_set ?_ GE101.out) | exact HB.out)⟩
   ·
    rw [if_neg c5] at H
    have c5b0 : ((bt a0_1 0) == 37) = false := beq_eq_false_iff_ne.mpr c5
    have c5b1 : ((bt a0_1 0) != 37) = true := bne_iff_ne.mpr c5
    by_cases c9 : (bt a0_1 0) < 48
    ·
     rw [if_pos c9] at H
     have c9b0 : decide ((bt a0_1 0) < 48) = true := decide_eq_true c9
     clear c9
     obtain rfl := Option.some.inj H
     go_enter Tryd.func16, Tryd.ntmps16
     go_wp2_with (first | ((with_reducible refine gate_dst (N := 1) rfl ?_); refine box_event ?hg (N := 1) ?hd (cs := #[.int .u8 a0_0, .string a0_1, .int .i64 a0_2]) (t := 53) ?hr ?_; (case hd => rfl); (case hg => rfl); (case hr => first | (go_simp; done) | (go_simp; rfl)); intro gb101 hg w10 hbox hb; have n0_ := Aside0.mk (below_step (by repeat (first | (with_reducible first | exact HB.out | apply below_alloc | apply pw_below_drewN | apply below_drew1) | exact HB.out)) hb); have n1_ := Aside0.mk (hbox); have n2_ := Aside0.mk ((by rw [hg]; exact (below_size (by repeat (first | (with_reducible first | exact HB.out | apply below_alloc | apply pw_below_drewN | apply below_drew1) | exact HB.out))) : w.heap.size ≤ gb101)); have n3_ := Aside0.mk ((by rw [hg]; exact (below_size (by repeat (first | (with_reducible first | exact HB.out | apply below_alloc | apply pw_below_drewN | apply below_drew1) | exact HB.out))) : w.heap.size ≤ gb101)); clear HB; have HB := n0_; have BK101 := n1_; have GW101 := n2_; have GE101 := n3_; clear n0_ n1_ n2_ n3_; clear hb hbox hg; have hcz11_0 : w10.cell? ⟨gb101, 0, none⟩ = some (.int .u8 a0_0) := (blk_cell BK101.out 0).trans rfl; have hcz11_1 : w10.cell? ⟨gb101, 1, none⟩ = some (.string a0_1) := (blk_cell BK101.out 1).trans rfl; have hcz11_2 : w10.cell? ⟨gb101, 2, none⟩ = some (.int .i64 a0_2) := (blk_cell BK101.out 2).trans rfl; have hfz11_0 := blk_frozen BK101.out 0; have hfz11_1 := blk_frozen BK101.out 1; have hfz11_2 := blk_frozen BK101.out 2; have p4 : 0 ≤ (0 : Int) := (by omega); have q4 : 0 < a0_1.size := (by have : (0 : Int) < (a0_1.size : Int) := of_decide_eq_true (by first | (with_reducible assumption) | assumption); omega); have hx4 : ∀ h : 0 < a0_1.size, ((a0_1[0]'h).toNat : Int) = bt a0_1 0 := bt_at a0_1 0; clear p4; have qi4 : (0 < (a0_1.size : Int)) = True := eq_true (of_decide_eq_true (by first | (with_reducible assumption) | assumption)); replace q4 := eq_true q4; have p8 : 0 ≤ (0 : Int) := (by omega); have q8 : 0 < a0_1.size := (by have : (0 : Int) < (a0_1.size : Int) := of_decide_eq_true (by first | (with_reducible assumption) | assumption); omega); have hx8 : ∀ h : 0 < a0_1.size, ((a0_1[0]'h).toNat : Int) = bt a0_1 0 := bt_at a0_1 0; clear p8; have qi8 : (0 < (a0_1.size : Int)) = True := eq_true (of_decide_eq_true (by first | (with_reducible assumption) | assumption)); replace q8 := eq_true q8))
     go_ret
     exact ⟨by first | rfl | (simp [errW_none, errW_some] <;> rfl) | (simp [*, errW_none, errW_some] <;> rfl), by repeat (first | (with_reducible first | exact HB.out | apply below_alloc | apply pw_below_drewN | apply below_drew1 | refine below_set ?_ GE101.out) | exact HB.out)⟩
    ·
     rw [if_neg c9] at H
     have c9b0 : decide ((bt a0_1 0) < 48) = false := decide_eq_false c9
     clear c9
     obtain rfl := Option.some.inj H
     go_enter Tryd.func16, Tryd.ntmps16
     go_wp2_with (first | ((with_reducible refine gate_dst (N := 1) rfl ?_); refine box_event ?hg (N := 1) ?hd (cs := #[.int .u8 a0_0, .string a0_1, .int .i64 a0_2]) (t := 53) ?hr ?_; (case hd => rfl); (case hg => rfl); (case hr => first | (go_simp; done) | (go_simp; rfl)); intro gb101 hg w13 hbox hb; have n0_ := Aside0.mk (below_step (by repeat (first | (with_reducible first | exact HB.out | apply below_alloc | apply pw_below_drewN | apply below_drew1) | exact HB.out)) hb); have n1_ := Aside0.mk (hbox); have n2_ := Aside0.mk ((by rw [hg]; exact (below_size (by repeat (first | (with_reducible first | exact HB.out | apply below_alloc | apply pw_below_drewN | apply below_drew1) | exact HB.out))) : w.heap.size ≤ gb101)); have n3_ := Aside0.mk ((by rw [hg]; exact (below_size (by repeat (first | (with_reducible first | exact HB.out | apply below_alloc | apply pw_below_drewN | apply below_drew1) | exact HB.out))) : w.heap.size ≤ gb101)); clear HB; have HB := n0_; have BK101 := n1_; have GW101 := n2_; have GE101 := n3_; clear n0_ n1_ n2_ n3_; clear hb hbox hg; have hcz14_0 : w13.cell? ⟨gb101, 0, none⟩ = some (.int .u8 a0_0) := (blk_cell BK101.out 0).trans rfl; have hcz14_1 : w13.cell? ⟨gb101, 1, none⟩ = some (.string a0_1) := (blk_cell BK101.out 1).trans rfl; have hcz14_2 : w13.cell? ⟨gb101, 2, none⟩ = some (.int .i64 a0_2) := (blk_cell BK101.out 2).trans rfl; have hfz14_0 := blk_frozen BK101.out 0; have hfz14_1 := blk_frozen BK101.out 1; have hfz14_2 := blk_frozen BK101.out 2; have p4 : 0 ≤ (0 : Int) := (by omega); have q4 : 0 < a0_1.size := (by have : (0 : Int) < (a0_1.size : Int) := of_decide_eq_true (by first | (with_reducible assumption) | assumption); omega); have hx4 : ∀ h : 0 < a0_1.size, ((a0_1[0]'h).toNat : Int) = bt a0_1 0 := bt_at a0_1 0; clear p4; have qi4 : (0 < (a0_1.size : Int)) = True := eq_true (of_decide_eq_true (by first | (with_reducible assumption) | assumption)); replace q4 := eq_true q4; have p8 : 0 ≤ (0 : Int) := (by omega); have q8 : 0 < a0_1.size := (by have : (0 : Int) < (a0_1.size : Int) := of_decide_eq_true (by first | (with_reducible assumption) | assumption); omega); have hx8 : ∀ h : 0 < a0_1.size, ((a0_1[0]'h).toNat : Int) = bt a0_1 0 := bt_at a0_1 0; clear p8; have qi8 : (0 < (a0_1.size : Int)) = True := eq_true (of_decide_eq_true (by first | (with_reducible assumption) | assumption)); replace q8 := eq_true q8; have p12 : 0 ≤ (0 : Int) := (by omega); have q12 : 0 < a0_1.size := (by have : (0 : Int) < (a0_1.size : Int) := of_decide_eq_true (by first | (with_reducible assumption) | assumption); omega); have hx12 : ∀ h : 0 < a0_1.size, ((a0_1[0]'h).toNat : Int) = bt a0_1 0 := bt_at a0_1 0; clear p12; have qi12 : (0 < (a0_1.size : Int)) = True := eq_true (of_decide_eq_true (by first | (with_reducible assumption) | assumption)); replace q12 := eq_true q12))
     go_ret
     exact ⟨by first | rfl | (simp [errW_none, errW_some] <;> rfl) | (simp [*, errW_none, errW_some] <;> rfl), by repeat (first | (with_reducible first | exact HB.out | apply below_alloc | apply pw_below_drewN | apply below_drew1 | refine below_set ?_ GE101.out) | exact HB.out)⟩
  ·
   rw [if_neg c3] at H
   exact absurd H (by simp)
 ·
  rw [if_neg c2] at H
  have c2b0 : (a0_0 == 1) = false := beq_eq_false_iff_ne.mpr c2
  have c2b1 : (a0_0 != 1) = true := bne_iff_ne.mpr c2
  obtain rfl := Option.some.inj H
  go_enter Tryd.func16, Tryd.ntmps16
  go_wp2_with (first | ((with_reducible refine gate_dst (N := 1) rfl ?_); refine box_event ?hg (N := 1) ?hd (cs := #[.int .u8 a0_0, .string a0_1, .int .i64 a0_2]) (t := 53) ?hr ?_; (case hd => rfl); (case hg => rfl); (case hr => first | (go_simp; done) | (go_simp; rfl)); intro gb101 hg w15 hbox hb; have n0_ := Aside0.mk (below_step (by repeat (first | (with_reducible first | exact HB.out | apply below_alloc | apply pw_below_drewN | apply below_drew1) | exact HB.out)) hb); have n1_ := Aside0.mk (hbox); have n2_ := Aside0.mk ((by rw [hg]; exact (below_size (by repeat (first | (with_reducible first | exact HB.out | apply below_alloc | apply pw_below_drewN | apply below_drew1) | exact HB.out))) : w.heap.size ≤ gb101)); have n3_ := Aside0.mk ((by rw [hg]; exact (below_size (by repeat (first | (with_reducible first | exact HB.out | apply below_alloc | apply pw_below_drewN | apply below_drew1) | exact HB.out))) : w.heap.size ≤ gb101)); clear HB; have HB := n0_; have BK101 := n1_; have GW101 := n2_; have GE101 := n3_; clear n0_ n1_ n2_ n3_; clear hb hbox hg; have hcz16_0 : w15.cell? ⟨gb101, 0, none⟩ = some (.int .u8 a0_0) := (blk_cell BK101.out 0).trans rfl; have hcz16_1 : w15.cell? ⟨gb101, 1, none⟩ = some (.string a0_1) := (blk_cell BK101.out 1).trans rfl; have hcz16_2 : w15.cell? ⟨gb101, 2, none⟩ = some (.int .i64 a0_2) := (blk_cell BK101.out 2).trans rfl; have hfz16_0 := blk_frozen BK101.out 0; have hfz16_1 := blk_frozen BK101.out 1; have hfz16_2 := blk_frozen BK101.out 2))
  go_ret
  exact ⟨by first | rfl | (simp [errW_none, errW_some] <;> rfl) | (simp [*, errW_none, errW_some] <;> rfl), by repeat (first | (with_reducible first | exact HB.out | apply below_alloc | apply pw_below_drewN | apply below_drew1 | refine below_set ?_ GE101.out) | exact HB.out)⟩

def line_counted.f (a0_0 : Int) (a0_1 : ByteArray) (a0_2 : Int) : Option (Bool) := if a0_0 = 2 then (if a0_2 ≥ 0 then (some (decide (a0_2 < 1000000000))) else (some false)) else (some false)
set_option maxHeartbeats 8000000 in
set_option maxRecDepth 100000 in
theorem line_counted.calls (a0_0 : Int) (a0_1 : ByteArray) (a0_2 : Int) (r : Bool) (w : World) (h : line_counted.f a0_0 a0_1 a0_2 = some r) :
  Calls Tryd.prog 21 #[.agg #[.int .u8 a0_0, .string a0_1, .int .i64 a0_2]] w fun e w' => e = .returned (.bool r) ∧ Below w.heap.size w w' := by
 have hu53 := Tryd.underlying53
 have HB := Aside0.mk (Below.refl w.heap.size w)
 have H : (if a0_0 = 2 then (if a0_2 ≥ 0 then (some (decide (a0_2 < 1000000000))) else (some false)) else (some false)) = some r := h
 clear h
 by_cases c2 : a0_0 = 2
 ·
  rw [if_pos c2] at H
  have c2b0 : (a0_0 == 2) = true := beq_iff_eq.mpr c2
  have c2b1 : (a0_0 != 2) = false := bne_eq_false_iff_eq.mpr c2
  clear c2
  by_cases c3 : a0_2 ≥ 0
  ·
   rw [if_pos c3] at H
   have c3b0 : decide (0 ≤ a0_2) = true := decide_eq_true c3
   clear c3
   obtain rfl := Option.some.inj H
   go_enter Tryd.func21, Tryd.ntmps21
   go_wp2_with (first | ((with_reducible refine gate_dst (N := 1) rfl ?_); refine box_event ?hg (N := 1) ?hd (cs := #[.int .u8 a0_0, .string a0_1, .int .i64 a0_2]) (t := 53) ?hr ?_; (case hd => rfl); (case hg => rfl); (case hr => first | (go_simp; done) | (go_simp; rfl)); intro gb102 hg w4 hbox hb; have n0_ := Aside0.mk (below_step (by repeat (first | (with_reducible first | exact HB.out | apply below_alloc | apply pw_below_drewN | apply below_drew1) | exact HB.out)) hb); have n1_ := Aside0.mk (hbox); have n2_ := Aside0.mk ((by rw [hg]; exact (below_size (by repeat (first | (with_reducible first | exact HB.out | apply below_alloc | apply pw_below_drewN | apply below_drew1) | exact HB.out))) : w.heap.size ≤ gb102)); have n3_ := Aside0.mk ((by rw [hg]; exact (below_size (by repeat (first | (with_reducible first | exact HB.out | apply below_alloc | apply pw_below_drewN | apply below_drew1) | exact HB.out))) : w.heap.size ≤ gb102)); clear HB; have HB := n0_; have BK102 := n1_; have GW102 := n2_; have GE102 := n3_; clear n0_ n1_ n2_ n3_; clear hb hbox hg; have hcz5_0 : w4.cell? ⟨gb102, 0, none⟩ = some (.int .u8 a0_0) := (blk_cell BK102.out 0).trans rfl; have hcz5_1 : w4.cell? ⟨gb102, 1, none⟩ = some (.string a0_1) := (blk_cell BK102.out 1).trans rfl; have hcz5_2 : w4.cell? ⟨gb102, 2, none⟩ = some (.int .i64 a0_2) := (blk_cell BK102.out 2).trans rfl; have hfz5_0 := blk_frozen BK102.out 0; have hfz5_1 := blk_frozen BK102.out 1; have hfz5_2 := blk_frozen BK102.out 2))
   go_ret
   exact ⟨by first | rfl | (simp [errW_none, errW_some] <;> rfl) | (simp [*, errW_none, errW_some] <;> rfl), by repeat (first | (with_reducible first | exact HB.out | apply below_alloc | apply pw_below_drewN | apply below_drew1 | refine below_set ?_ GE102.out) | exact HB.out)⟩
  ·
   rw [if_neg c3] at H
   have c3b0 : decide (0 ≤ a0_2) = false := decide_eq_false c3
   clear c3
   obtain rfl := Option.some.inj H
   go_enter Tryd.func21, Tryd.ntmps21
   go_wp2_with (first | ((with_reducible refine gate_dst (N := 1) rfl ?_); refine box_event ?hg (N := 1) ?hd (cs := #[.int .u8 a0_0, .string a0_1, .int .i64 a0_2]) (t := 53) ?hr ?_; (case hd => rfl); (case hg => rfl); (case hr => first | (go_simp; done) | (go_simp; rfl)); intro gb102 hg w6 hbox hb; have n0_ := Aside0.mk (below_step (by repeat (first | (with_reducible first | exact HB.out | apply below_alloc | apply pw_below_drewN | apply below_drew1) | exact HB.out)) hb); have n1_ := Aside0.mk (hbox); have n2_ := Aside0.mk ((by rw [hg]; exact (below_size (by repeat (first | (with_reducible first | exact HB.out | apply below_alloc | apply pw_below_drewN | apply below_drew1) | exact HB.out))) : w.heap.size ≤ gb102)); have n3_ := Aside0.mk ((by rw [hg]; exact (below_size (by repeat (first | (with_reducible first | exact HB.out | apply below_alloc | apply pw_below_drewN | apply below_drew1) | exact HB.out))) : w.heap.size ≤ gb102)); clear HB; have HB := n0_; have BK102 := n1_; have GW102 := n2_; have GE102 := n3_; clear n0_ n1_ n2_ n3_; clear hb hbox hg; have hcz7_0 : w6.cell? ⟨gb102, 0, none⟩ = some (.int .u8 a0_0) := (blk_cell BK102.out 0).trans rfl; have hcz7_1 : w6.cell? ⟨gb102, 1, none⟩ = some (.string a0_1) := (blk_cell BK102.out 1).trans rfl; have hcz7_2 : w6.cell? ⟨gb102, 2, none⟩ = some (.int .i64 a0_2) := (blk_cell BK102.out 2).trans rfl; have hfz7_0 := blk_frozen BK102.out 0; have hfz7_1 := blk_frozen BK102.out 1; have hfz7_2 := blk_frozen BK102.out 2))
   go_ret
   exact ⟨by first | rfl | (simp [errW_none, errW_some] <;> rfl) | (simp [*, errW_none, errW_some] <;> rfl), by repeat (first | (with_reducible first | exact HB.out | apply below_alloc | apply pw_below_drewN | apply below_drew1 | refine below_set ?_ GE102.out) | exact HB.out)⟩
 ·
  rw [if_neg c2] at H
  have c2b0 : (a0_0 == 2) = false := beq_eq_false_iff_ne.mpr c2
  have c2b1 : (a0_0 != 2) = true := bne_iff_ne.mpr c2
  obtain rfl := Option.some.inj H
  go_enter Tryd.func21, Tryd.ntmps21
  go_wp2_with (first | ((with_reducible refine gate_dst (N := 1) rfl ?_); refine box_event ?hg (N := 1) ?hd (cs := #[.int .u8 a0_0, .string a0_1, .int .i64 a0_2]) (t := 53) ?hr ?_; (case hd => rfl); (case hg => rfl); (case hr => first | (go_simp; done) | (go_simp; rfl)); intro gb102 hg w8 hbox hb; have n0_ := Aside0.mk (below_step (by repeat (first | (with_reducible first | exact HB.out | apply below_alloc | apply pw_below_drewN | apply below_drew1) | exact HB.out)) hb); have n1_ := Aside0.mk (hbox); have n2_ := Aside0.mk ((by rw [hg]; exact (below_size (by repeat (first | (with_reducible first | exact HB.out | apply below_alloc | apply pw_below_drewN | apply below_drew1) | exact HB.out))) : w.heap.size ≤ gb102)); have n3_ := Aside0.mk ((by rw [hg]; exact (below_size (by repeat (first | (with_reducible first | exact HB.out | apply below_alloc | apply pw_below_drewN | apply below_drew1) | exact HB.out))) : w.heap.size ≤ gb102)); clear HB; have HB := n0_; have BK102 := n1_; have GW102 := n2_; have GE102 := n3_; clear n0_ n1_ n2_ n3_; clear hb hbox hg; have hcz9_0 : w8.cell? ⟨gb102, 0, none⟩ = some (.int .u8 a0_0) := (blk_cell BK102.out 0).trans rfl; have hcz9_1 : w8.cell? ⟨gb102, 1, none⟩ = some (.string a0_1) := (blk_cell BK102.out 1).trans rfl; have hcz9_2 : w8.cell? ⟨gb102, 2, none⟩ = some (.int .i64 a0_2) := (blk_cell BK102.out 2).trans rfl; have hfz9_0 := blk_frozen BK102.out 0; have hfz9_1 := blk_frozen BK102.out 1; have hfz9_2 := blk_frozen BK102.out 2))
  go_ret
  exact ⟨by first | rfl | (simp [errW_none, errW_some] <;> rfl) | (simp [*, errW_none, errW_some] <;> rfl), by repeat (first | (with_reducible first | exact HB.out | apply below_alloc | apply pw_below_drewN | apply below_drew1 | refine below_set ?_ GE102.out) | exact HB.out)⟩

def slices_Index_string_string.l0 : Nat → List ByteArray → ByteArray → Int → Int → Option (Int)
 | 0, _, _, _, _ => none
 | k + 1, x0, x1, x7, x8 => if x8 < x7 then (if 0 ≤ x8 then (if x8 < (x0.length : Int) then (if x1.toList = (rdOf ByteArray.empty x0 x8).toList then (some x8) else (slices_Index_string_string.l0 k x0 x1 x7 (wrap64 (x8 + 1)))) else (none)) else (none)) else (some (-1))
def slices_Index_string_string.f (k : Nat) (l0 : List ByteArray) (a1 : ByteArray) : Option (Int) := slices_Index_string_string.l0 k l0 a1 (l0.length : Int) 0
set_option maxHeartbeats 8000000 in
set_option maxRecDepth 100000 in
theorem slices_Index_string_string.calls (k : Nat) (A0 : Option Addr) (c0 : Nat) (l0 : List ByteArray) (a1 : ByteArray) (r : Int) (w : World) (hr0 : Kd.C Kd.string w A0 l0.length l0) (hc0 : l0.length ≤ c0) (h : slices_Index_string_string.f k l0 a1 = some r) :
  Calls Tryd.prog 8 #[.slice A0 l0.length c0, .string a1] w fun e w' => e = .returned (.int .i64 r) ∧ Drawn0 w w' := by
 have HR0 := Aside0.mk hr0
 have HC0 := Aside0.mk hc0
 clear hr0 hc0
 have H : (slices_Index_string_string.l0 k l0 a1 (l0.length : Int) 0) = some r := h
 clear h
 have H' := Aside0.mk H
 clear H
 go_enter Tryd.func8, Tryd.ntmps8
 go_wp2
 go_loopg [8] k (fun kq v8 w' => ∃ (x8_1 : Int), v8 = .int .i64 x8_1 ∧ Aside0 (slices_Index_string_string.l0 kq l0 a1 (l0.length : Int) x8_1 = some r) ∧ Aside0 (kq ≤ k) ∧ Drawn0 w w')
 case atStart => exact ⟨(0), (by first | rfl | (simp; done) | (simp [*]; done)), H', ⟨Nat.le_refl _⟩, by repeat (first | exact Drawn0.refl _ | apply Drawn0.step)⟩
 case round =>
  clear H'
  try clear p2
  obtain ⟨x8_1, rfl, HA, HK1, ⟨m1, rfl⟩⟩ := hrel
  cases gk with
  | zero => exact absurd HA.out (by simp [slices_Index_string_string.l0])
  | succ k1 =>
   have H := HA.out
   clear HA
   simp only [slices_Index_string_string.l0] at H
   by_cases c3 : x8_1 < (l0.length : Int)
   ·
    rw [if_pos c3] at H
    have c3b0 : decide (x8_1 < (l0.length : Int)) = true := decide_eq_true c3
    clear c3
    by_cases c4 : 0 ≤ x8_1
    ·
     rw [if_pos c4] at H
     have c4b0 : decide (0 ≤ x8_1) = true := decide_eq_true c4
     clear c4
     by_cases c5 : x8_1 < (l0.length : Int)
     ·
      rw [if_pos c5] at H
      have c5b0 : decide (x8_1 < (l0.length : Int)) = true := decide_eq_true c5
      clear c5
      by_cases c6 : a1.toList = (rdOf ByteArray.empty l0 x8_1).toList
      ·
       rw [if_pos c6] at H
       have c6b0 : (a1.toList == (rdOf ByteArray.empty l0 x8_1).toList) = true := beq_iff_eq.mpr c6
       have c6b1 : (a1.toList != (rdOf ByteArray.empty l0 x8_1).toList) = false := bne_eq_false_iff_eq.mpr c6
       clear c6
       obtain rfl := Option.some.inj H
       have p103 : 0 ≤ (x8_1 : Int) := of_decide_eq_true (by first | (with_reducible assumption) | assumption)
       have q103 : x8_1 < (l0.length : Int) := of_decide_eq_true (by first | (with_reducible assumption) | assumption)
       obtain ⟨ad103, e103, hx103_0⟩ := Kd.at_string HR0.out x8_1 p103 q103
       cases e103
       replace p103 := eq_true p103
       replace q103 := eq_true q103
       go_wp2
       go_ret
       exact ⟨by first | rfl | (simp; done) | (simp [*]; done), by repeat (first | exact Drawn0.refl _ | apply Drawn0.step)⟩
      ·
       rw [if_neg c6] at H
       have c6b0 : (a1.toList == (rdOf ByteArray.empty l0 x8_1).toList) = false := beq_eq_false_iff_ne.mpr c6
       have c6b1 : (a1.toList != (rdOf ByteArray.empty l0 x8_1).toList) = true := bne_iff_ne.mpr c6
       have H' := Aside0.mk H
       clear H
       have p103 : 0 ≤ (x8_1 : Int) := of_decide_eq_true (by first | (with_reducible assumption) | assumption)
       have q103 : x8_1 < (l0.length : Int) := of_decide_eq_true (by first | (with_reducible assumption) | assumption)
       obtain ⟨ad103, e103, hx103_0⟩ := Kd.at_string HR0.out x8_1 p103 q103
       cases e103
       replace p103 := eq_true p103
       replace q103 := eq_true q103
       go_wp2
       go_roundg k1
       case measure => have := HK1.out; omega
       case rel => exact ⟨(wrap64 (x8_1 + 1)), (by first | rfl | (simp; done) | (simp [*]; done)), H', ⟨by have := HK1.out; omega⟩, by repeat (first | exact Drawn0.refl _ | apply Drawn0.step)⟩
     ·
      rw [if_neg c5] at H
      exact absurd H (by simp)
    ·
     rw [if_neg c4] at H
     exact absurd H (by simp)
   ·
    rw [if_neg c3] at H
    have c3b0 : decide (x8_1 < (l0.length : Int)) = false := decide_eq_false c3
    clear c3
    obtain rfl := Option.some.inj H
    go_wp2
    go_ret
    exact ⟨by first | rfl | (simp; done) | (simp [*]; done), by repeat (first | exact Drawn0.refl _ | apply Drawn0.step)⟩


section
open Go.Proofs.YtbfndlfemhidaaaDoor.Lex
namespace LR
theorem tl (l : List UInt8) : (⟨l.toArray⟩ : ByteArray).toList = l := by rw [ByteArray.toList_eq]
theorem find_le (s : List UInt8) : ∀ (l : List (List UInt8)) (i n : Nat), Li.findL s l i = some n → i ≤ n ∧ n < i + l.length
  | [], i, n, h => by cases h
  | x :: l, i, n, h => by
    unfold Li.findL at h
    split at h
    · cases h
      simp
    · have := find_le s l (i + 1) n h
      simp only [List.length_cons]
      omega
def idx (o : Option Nat) : Int := match o with | some n => n | none => -1
theorem index_loop (L : List (List UInt8)) (hL : L.length ≤ 1000) (s : ByteArray) : ∀ (d i k : Nat), L.length = i + d → d < k →
    slices_Index_string_string.l0 k (L.map fun x => (⟨x.toArray⟩ : ByteArray)) s (L.length : Int) (i : Int) = some (idx (Li.findL s.data.toList (L.drop i) i))
  | d, i, 0, _, hk => by omega
  | 0, i, k + 1, hd, hk => by
    rw [slices_Index_string_string.l0, if_neg (by omega), List.drop_eq_nil_of_le (by omega)]
    rfl
  | d + 1, i, k + 1, hd, hk => by
    have hlt : i < L.length := by omega
    have hr : rdOf ByteArray.empty (L.map fun x => (⟨x.toArray⟩ : ByteArray)) (i : Int) = ⟨L[i].toArray⟩ := by
      simp [rdOf, List.getD, List.getElem?_eq_getElem hlt]
    rw [slices_Index_string_string.l0, if_pos (by omega), if_pos (by omega), if_pos (by rw [List.length_map]; omega), hr, tl, ByteArray.toList_eq, List.drop_eq_getElem_cons hlt, Li.findL]
    by_cases c : s.data.toList = L[i]
    · rw [if_pos c, if_pos c]
      rfl
    · rw [if_neg c, if_neg c, show wrap64 ((i : Int) + 1) = ((i + 1 : Nat) : Int) by unfold wrap64; omega]
      exact index_loop L hL s d (i + 1) k (by omega) (by omega)
def REGS : List ByteArray := Li.regNames.map fun x => (⟨x.toArray⟩ : ByteArray)
theorem index_f (s : ByteArray) : slices_Index_string_string.f 40 REGS s = some (idx (Li.findL s.data.toList Li.regNames 0)) := by
  unfold slices_Index_string_string.f REGS
  have := index_loop Li.regNames (by decide) s 32 0 40 rfl (by omega)
  rw [List.length_map]
  exact this
theorem regs_row {w : World} (h : LiW.RegsAt w) : Kd.C Kd.string w (some ⟨0, 0, none⟩) 32 REGS := by
  refine Kd.C_of_reads (enc := Value.string) (d := ByteArray.empty) (h1 := fun _ => rfl) ⟨rfl, by decide, fun _ => ⟨_, rfl, fun j hj => ?_⟩⟩
  have e : (⟨0, 0, none⟩ : Addr).add j = ⟨0, j, none⟩ := by
    unfold Addr.add
    split
    · rename_i h
      subst h
      rfl
    · rw [Nat.zero_add]
  rw [e, h j hj]
  have hj' : j < Li.regNames.length := hj
  simp [REGS, List.getD, List.getElem?_eq_getElem hj']
theorem regs_calls (s : ByteArray) (w : World) (i : Int) (h : LiW.RegsAt w) (hm : slices_Index_string_string.f 40 REGS s = some i) :
    Calls Tryd.prog 8 #[.slice (some ⟨0, 0, none⟩) 32 32, .string s] w fun e w' => e = .returned (.int .i64 i) ∧ Drawn0 w w' :=
  slices_Index_string_string.calls 40 _ 32 REGS s _ w (regs_row h) (Nat.le_refl 32) hm
theorem itoa_dec (n : Nat) : Lib.itoa (n : Int) = decL n := by
  rw [Lib.itoa_nonneg]
  induction n using Nat.strongRecOn with
  | _ n ih =>
    rw [Lib.decDigits, decL]
    by_cases h : n < 10
    · rw [dif_pos h, if_pos h]
      rfl
    · rw [dif_neg h, if_neg h, ih (n / 10) (by omega)]
      rfl
theorem add_x (t : List UInt8) : ((⟨#[120]⟩ : ByteArray) ++ (⟨t.toArray⟩ : ByteArray)).toList = 120 :: t := by
  rw [ByteArray.toList_eq]
  simp [ByteArray.data_append]
def regV (s : ByteArray) : Int × Int := match Li.regL s.data.toList with | some n => ((n : Int), 0) | none => (0, 6)
set_option maxHeartbeats 4000000 in
set_option maxRecDepth 100000 in
theorem register_walk (s : ByteArray) (hs : s.size ≤ 1000000) (w : World) (hT : Lib.TabIs Tryd.prog w "internal/strconv.uint64pow10" .u64 Lib.pow10Tab) (hR : LiW.RegsAt w) :
    Calls Tryd.prog 6 #[.string s] w fun e w' => e = .returned (.tuple #[.int .i64 (regV s).1, .int .i64 (regV s).2]) ∧ Below w.heap.size w w' := by
  obtain ⟨RES, hres⟩ : ∃ r, r = regV s := ⟨_, rfl⟩
  rw [← hres]
  obtain ⟨R1, R2⟩ := RES
  have HT := Aside0.mk hT
  have HR := Aside0.mk hR
  have HI := Aside0.mk (index_f s)
  clear hT hR
  unfold regV Li.regL at hres
  cases hf : Li.findL s.data.toList Li.regNames 0 with
  | some n =>
    rw [hf] at hres HI
    simp only [Prod.mk.injEq] at hres
    obtain ⟨rfl, rfl⟩ := hres
    have hn : n < 32 := Nat.lt_of_lt_of_le (find_le _ _ _ _ hf).2 (by decide)
    have d0 : decide (0 ≤ (n : Int)) = true := decide_eq_true (by omega)
    clear hf
    go_enter Tryd.func6, Tryd.ntmps6
    go_wp2_with (first | (go_at_call 8; (with_reducible refine (regs_calls s _ _ HR.out HI.out).mono ?_); rintro e w1 ⟨rfl, hb⟩; have HB := Aside0.mk (LexW.below_drawn hb); clear hb))
    go_ret2
    exact ⟨rfl, HB.out⟩
  | none =>
    rw [hf] at hres HI
    clear hf
    simp only at hres
    by_cases c8 : s.data.toList = [102, 112]
    · rw [if_pos c8] at hres
      simp only [Prod.mk.injEq] at hres
      obtain ⟨rfl, rfl⟩ := hres
      have e8 : (s.toList == ([102, 112] : List UInt8)) = true := by rw [ByteArray.toList_eq]; exact beq_iff_eq.2 c8
      clear c8
      go_enter Tryd.func6, Tryd.ntmps6
      go_wp2_with (first | (go_at_call 8; (with_reducible refine (regs_calls s _ _ HR.out HI.out).mono ?_); rintro e w1 ⟨rfl, hb⟩; have HB := Aside0.mk (LexW.below_drawn hb); clear hb))
      go_ret2
      exact ⟨rfl, HB.out⟩
    · rw [if_neg c8] at hres
      have e8 : (s.toList == ([102, 112] : List UInt8)) = false := by rw [ByteArray.toList_eq]; exact beq_eq_false_iff_ne.2 c8
      clear c8
      have HRES := Aside0.mk hres
      have HSZ := Aside0.mk hs
      clear hres hs
      go_enter Tryd.func6, Tryd.ntmps6
      go_wp2_with (first | (go_at_call 8; (with_reducible refine (regs_calls s _ _ HR.out HI.out).mono ?_); rintro e w1 ⟨rfl, hb⟩; have HB := Aside0.mk (LexW.below_drawn hb); clear hb))
      go_loopw [14] (fun v14 wx => ∃ i : Nat, v14 = .int .i64 (i : Int) ∧ Aside0 (i ≤ 32 ∧ Li.xReg s.data.toList (32 - i) i = Li.xReg s.data.toList 32 0) ∧ Aside0 (Below w.heap.size w wx)) (fun v14 _ => match v14 with | .int _ i => 32 - i.toNat | _ => 0)
      case atStart => exact ⟨0, rfl, ⟨by omega, rfl⟩, HB⟩
      case round =>
        clear HB
        obtain ⟨i, rfl, HI2, HB⟩ := hrel
        by_cases hlt : i < 32
        · have d0 : decide ((i : Int) < 32) = true := decide_eq_true (by omega)
          have hi := HI2.out.1
          have hx := HI2.out.2
          obtain ⟨d, hd⟩ : ∃ d, 32 - i = d + 1 := ⟨31 - i, by omega⟩
          rw [hd, Li.xReg] at hx
          have hd2 : 32 - (i + 1) = d := by omega
          obtain ⟨t, ht⟩ : ∃ t : ByteArray, t = ⟨(Lex.decL i).toArray⟩ := ⟨_, rfl⟩
          have hI : strconv_Itoa.f (i : Int) = some t := by unfold strconv_Itoa.f; rw [if_pos (by omega), ht, itoa_dec]
          have hsz : t.size ≤ 21 := by
            have := Lib.itoa_length_le (i : Int) (by omega) (by omega)
            rw [itoa_dec] at this
            rw [ht]
            show (Lex.decL i).toArray.size ≤ 21
            simpa using this
          have hcmp : (s.toList == ((⟨#[120]⟩ : ByteArray) ++ t).toList) = decide (s.data.toList = 120 :: Lex.decL i) := by
            rw [ht, add_x, ByteArray.toList_eq]
            by_cases h : s.data.toList = 120 :: Lex.decL i
            · rw [decide_eq_true h, h]; simp
            · rw [decide_eq_false h]; simp [h]
          have HIT := Aside0.mk hI
          have z1 : 1 + t.size ≤ 9223372036854775807 := by omega
          have z1b := eq_true z1
          have z1c : decide (1 + t.size ≤ 9223372036854775807) = true := decide_eq_true z1
          have z1d : (9223372036854775807 < 1 + t.size) = False := eq_false (Nat.not_lt.2 z1)
          have hw : wrap64 ((i : Int) + 1) = ((i + 1 : Nat) : Int) := by unfold wrap64; omega
          clear z1 hI ht hsz hi
          by_cases hc : s.data.toList = 120 :: Lex.decL i
          · rw [if_pos hc] at hx
            rw [decide_eq_true hc] at hcmp
            have hr := HRES.out
            rw [← hx] at hr
            simp only [Prod.mk.injEq] at hr
            obtain ⟨rfl, rfl⟩ := hr
            clear hc hx HRES HI2 hd hd2 hlt
            go_wp2_with (first | (go_at_call 9; have hT1 := Lib.tabBelow_of_tabIs HT.out _ HB.out; (with_reducible refine (strconv_Itoa.calls _ _ _ hT1 HIT.out).mono ?_); rintro e w2 ⟨rfl, hb⟩; have HB2 := Aside0.mk (below_step HB.out hb); clear hb))
            go_ret2
            exact ⟨rfl, HB2.out⟩
          · rw [if_neg hc] at hx
            rw [decide_eq_false hc] at hcmp
            have HX : Aside0 (Li.xReg s.data.toList (32 - (i + 1)) (i + 1) = Li.xReg s.data.toList 32 0) := ⟨by rw [hd2]; exact hx⟩
            have HLT := Aside0.mk (And.intro hlt hd2)
            clear hc hx HI2 hd hd2 hlt
            go_wp2_with (first | (go_at_call 9; have hT1 := Lib.tabBelow_of_tabIs HT.out _ HB.out; (with_reducible refine (strconv_Itoa.calls _ _ _ hT1 HIT.out).mono ?_); rintro e w2 ⟨rfl, hb⟩; have HB2 := Aside0.mk (below_step HB.out hb); clear hb))
            go_roundw
            case rel => exact ⟨i + 1, by rw [hw], ⟨by have := HLT.out.1; omega, HX.out⟩, HB2⟩
            case measure => have := HLT.out.1; simp only [hw]; omega
        · have d0 : decide ((i : Int) < 32) = false := decide_eq_false (by omega)
          have hi : i = 32 := by have := HI2.out.1; omega
          have hx : Li.xReg s.data.toList 32 0 = none := by rw [← HI2.out.2, hi]; rfl
          have HX := Aside0.mk hx
          clear hx hi hlt HI2
          go_wp2
          go_ret2
          have hr := HRES.out
          rw [HX.out] at hr
          simp only [Prod.mk.injEq] at hr
          obtain ⟨rfl, rfl⟩ := hr
          exact ⟨rfl, HB.out⟩
end LR
def line_Register.f (a0 : ByteArray) : Option (Int × Int) := if a0.size ≤ 1000000 then some (LR.regV a0) else none
theorem line_Register.calls (a0 : ByteArray) (r1 r2 : Int) (w : World) (hT : Lib.TabIs Tryd.prog w "internal/strconv.uint64pow10" .u64 Lib.pow10Tab) (hG : LiW.RegsAt w) (h : line_Register.f a0 = some (r1, r2)) :
    Calls Tryd.prog 6 #[.string a0] w fun e w' => e = .returned (.tuple #[.int .i64 r1, .int .i64 r2]) ∧ Below w.heap.size w w' := by
  unfold line_Register.f at h
  by_cases c : a0.size ≤ 1000000
  · rw [if_pos c] at h
    have := LR.register_walk a0 c w hT hG
    rw [Option.some.inj h] at this
    exact this
  · rw [if_neg c] at h
    cases h
end

def lex_mark.f (a0 : Int) : Option (Bool) := if a0 = 44 then (some true) else (if a0 = 40 then (some true) else (if a0 = 41 then (some true) else (if a0 = 43 then (some true) else (if a0 = 45 then (some true) else (if a0 = 58 then (some true) else (some false))))))
set_option maxHeartbeats 8000000 in
set_option maxRecDepth 100000 in
theorem lex_mark.calls (a0 : Int) (r : Bool) (w : World) (h : lex_mark.f a0 = some r) :
  Calls Tryd.prog 27 #[.int .u8 a0] w fun e w' => e = .returned (.bool r) ∧ Drawn0 w w' := by
 have H : (if a0 = 44 then (some true) else (if a0 = 40 then (some true) else (if a0 = 41 then (some true) else (if a0 = 43 then (some true) else (if a0 = 45 then (some true) else (if a0 = 58 then (some true) else (some false))))))) = some r := h
 clear h
 by_cases c2 : a0 = 44
 ·
  rw [if_pos c2] at H
  have c2b0 : (a0 == 44) = true := beq_iff_eq.mpr c2
  have c2b1 : (a0 != 44) = false := bne_eq_false_iff_eq.mpr c2
  clear c2
  obtain rfl := Option.some.inj H
  go_enter Tryd.func27, Tryd.ntmps27
  go_wp2
  go_ret
  exact ⟨by first | rfl | (simp; done) | (simp [*]; done), by repeat (first | exact Drawn0.refl _ | apply Drawn0.step)⟩
 ·
  rw [if_neg c2] at H
  have c2b0 : (a0 == 44) = false := beq_eq_false_iff_ne.mpr c2
  have c2b1 : (a0 != 44) = true := bne_iff_ne.mpr c2
  by_cases c3 : a0 = 40
  ·
   rw [if_pos c3] at H
   have c3b0 : (a0 == 40) = true := beq_iff_eq.mpr c3
   have c3b1 : (a0 != 40) = false := bne_eq_false_iff_eq.mpr c3
   clear c3
   obtain rfl := Option.some.inj H
   go_enter Tryd.func27, Tryd.ntmps27
   go_wp2
   go_ret
   exact ⟨by first | rfl | (simp; done) | (simp [*]; done), by repeat (first | exact Drawn0.refl _ | apply Drawn0.step)⟩
  ·
   rw [if_neg c3] at H
   have c3b0 : (a0 == 40) = false := beq_eq_false_iff_ne.mpr c3
   have c3b1 : (a0 != 40) = true := bne_iff_ne.mpr c3
   by_cases c4 : a0 = 41
   ·
    rw [if_pos c4] at H
    have c4b0 : (a0 == 41) = true := beq_iff_eq.mpr c4
    have c4b1 : (a0 != 41) = false := bne_eq_false_iff_eq.mpr c4
    clear c4
    obtain rfl := Option.some.inj H
    go_enter Tryd.func27, Tryd.ntmps27
    go_wp2
    go_ret
    exact ⟨by first | rfl | (simp; done) | (simp [*]; done), by repeat (first | exact Drawn0.refl _ | apply Drawn0.step)⟩
   ·
    rw [if_neg c4] at H
    have c4b0 : (a0 == 41) = false := beq_eq_false_iff_ne.mpr c4
    have c4b1 : (a0 != 41) = true := bne_iff_ne.mpr c4
    by_cases c5 : a0 = 43
    ·
     rw [if_pos c5] at H
     have c5b0 : (a0 == 43) = true := beq_iff_eq.mpr c5
     have c5b1 : (a0 != 43) = false := bne_eq_false_iff_eq.mpr c5
     clear c5
     obtain rfl := Option.some.inj H
     go_enter Tryd.func27, Tryd.ntmps27
     go_wp2
     go_ret
     exact ⟨by first | rfl | (simp; done) | (simp [*]; done), by repeat (first | exact Drawn0.refl _ | apply Drawn0.step)⟩
    ·
     rw [if_neg c5] at H
     have c5b0 : (a0 == 43) = false := beq_eq_false_iff_ne.mpr c5
     have c5b1 : (a0 != 43) = true := bne_iff_ne.mpr c5
     by_cases c6 : a0 = 45
     ·
      rw [if_pos c6] at H
      have c6b0 : (a0 == 45) = true := beq_iff_eq.mpr c6
      have c6b1 : (a0 != 45) = false := bne_eq_false_iff_eq.mpr c6
      clear c6
      obtain rfl := Option.some.inj H
      go_enter Tryd.func27, Tryd.ntmps27
      go_wp2
      go_ret
      exact ⟨by first | rfl | (simp; done) | (simp [*]; done), by repeat (first | exact Drawn0.refl _ | apply Drawn0.step)⟩
     ·
      rw [if_neg c6] at H
      have c6b0 : (a0 == 45) = false := beq_eq_false_iff_ne.mpr c6
      have c6b1 : (a0 != 45) = true := bne_iff_ne.mpr c6
      by_cases c7 : a0 = 58
      ·
       rw [if_pos c7] at H
       have c7b0 : (a0 == 58) = true := beq_iff_eq.mpr c7
       have c7b1 : (a0 != 58) = false := bne_eq_false_iff_eq.mpr c7
       clear c7
       obtain rfl := Option.some.inj H
       go_enter Tryd.func27, Tryd.ntmps27
       go_wp2
       go_ret
       exact ⟨by first | rfl | (simp; done) | (simp [*]; done), by repeat (first | exact Drawn0.refl _ | apply Drawn0.step)⟩
      ·
       rw [if_neg c7] at H
       have c7b0 : (a0 == 58) = false := beq_eq_false_iff_ne.mpr c7
       have c7b1 : (a0 != 58) = true := bne_iff_ne.mpr c7
       obtain rfl := Option.some.inj H
       go_enter Tryd.func27, Tryd.ntmps27
       go_wp2
       go_ret
       exact ⟨by first | rfl | (simp; done) | (simp [*]; done), by repeat (first | exact Drawn0.refl _ | apply Drawn0.step)⟩

def lex_start.f (a0 : Int) : Option (Bool) := if a0 ≥ 97 then (if a0 ≤ 122 then (some true) else (if a0 ≥ 65 then (if a0 ≤ 90 then (some true) else (if a0 = 95 then (some true) else (if a0 = 46 then (some true) else (if a0 = 36 then (some true) else (some (a0 == 37)))))) else (if a0 = 95 then (some true) else (if a0 = 46 then (some true) else (if a0 = 36 then (some true) else (some (a0 == 37))))))) else (if a0 ≥ 65 then (if a0 ≤ 90 then (some true) else (if a0 = 95 then (some true) else (if a0 = 46 then (some true) else (if a0 = 36 then (some true) else (some (a0 == 37)))))) else (if a0 = 95 then (some true) else (if a0 = 46 then (some true) else (if a0 = 36 then (some true) else (some (a0 == 37))))))
set_option maxHeartbeats 8000000 in
set_option maxRecDepth 100000 in
theorem lex_start.calls (a0 : Int) (r : Bool) (w : World) (h : lex_start.f a0 = some r) :
  Calls Tryd.prog 29 #[.int .u8 a0] w fun e w' => e = .returned (.bool r) ∧ Drawn0 w w' := by
 have H : (if a0 ≥ 97 then (if a0 ≤ 122 then (some true) else (if a0 ≥ 65 then (if a0 ≤ 90 then (some true) else (if a0 = 95 then (some true) else (if a0 = 46 then (some true) else (if a0 = 36 then (some true) else (some (a0 == 37)))))) else (if a0 = 95 then (some true) else (if a0 = 46 then (some true) else (if a0 = 36 then (some true) else (some (a0 == 37))))))) else (if a0 ≥ 65 then (if a0 ≤ 90 then (some true) else (if a0 = 95 then (some true) else (if a0 = 46 then (some true) else (if a0 = 36 then (some true) else (some (a0 == 37)))))) else (if a0 = 95 then (some true) else (if a0 = 46 then (some true) else (if a0 = 36 then (some true) else (some (a0 == 37))))))) = some r := h
 clear h
 by_cases c2 : a0 ≥ 97
 ·
  rw [if_pos c2] at H
  have c2b0 : decide (97 ≤ a0) = true := decide_eq_true c2
  clear c2
  by_cases c3 : a0 ≤ 122
  ·
   rw [if_pos c3] at H
   have c3b0 : decide (a0 ≤ 122) = true := decide_eq_true c3
   clear c3
   obtain rfl := Option.some.inj H
   go_enter Tryd.func29, Tryd.ntmps29
   go_wp2
   go_ret
   exact ⟨by first | rfl | (simp; done) | (simp [*]; done), by repeat (first | exact Drawn0.refl _ | apply Drawn0.step)⟩
  ·
   rw [if_neg c3] at H
   have c3b0 : decide (a0 ≤ 122) = false := decide_eq_false c3
   clear c3
   by_cases c4 : a0 ≥ 65
   ·
    rw [if_pos c4] at H
    have c4b0 : decide (65 ≤ a0) = true := decide_eq_true c4
    clear c4
    by_cases c5 : a0 ≤ 90
    ·
     rw [if_pos c5] at H
     have c5b0 : decide (a0 ≤ 90) = true := decide_eq_true c5
     clear c5
     obtain rfl := Option.some.inj H
     go_enter Tryd.func29, Tryd.ntmps29
     go_wp2
     go_ret
     exact ⟨by first | rfl | (simp; done) | (simp [*]; done), by repeat (first | exact Drawn0.refl _ | apply Drawn0.step)⟩
    ·
     rw [if_neg c5] at H
     have c5b0 : decide (a0 ≤ 90) = false := decide_eq_false c5
     clear c5
     by_cases c6 : a0 = 95
     ·
      rw [if_pos c6] at H
      have c6b0 : (a0 == 95) = true := beq_iff_eq.mpr c6
      have c6b1 : (a0 != 95) = false := bne_eq_false_iff_eq.mpr c6
      clear c6
      obtain rfl := Option.some.inj H
      go_enter Tryd.func29, Tryd.ntmps29
      go_wp2
      go_ret
      exact ⟨by first | rfl | (simp; done) | (simp [*]; done), by repeat (first | exact Drawn0.refl _ | apply Drawn0.step)⟩
     ·
      rw [if_neg c6] at H
      have c6b0 : (a0 == 95) = false := beq_eq_false_iff_ne.mpr c6
      have c6b1 : (a0 != 95) = true := bne_iff_ne.mpr c6
      by_cases c7 : a0 = 46
      ·
       rw [if_pos c7] at H
       have c7b0 : (a0 == 46) = true := beq_iff_eq.mpr c7
       have c7b1 : (a0 != 46) = false := bne_eq_false_iff_eq.mpr c7
       clear c7
       obtain rfl := Option.some.inj H
       go_enter Tryd.func29, Tryd.ntmps29
       go_wp2
       go_ret
       exact ⟨by first | rfl | (simp; done) | (simp [*]; done), by repeat (first | exact Drawn0.refl _ | apply Drawn0.step)⟩
      ·
       rw [if_neg c7] at H
       have c7b0 : (a0 == 46) = false := beq_eq_false_iff_ne.mpr c7
       have c7b1 : (a0 != 46) = true := bne_iff_ne.mpr c7
       by_cases c8 : a0 = 36
       ·
        rw [if_pos c8] at H
        have c8b0 : (a0 == 36) = true := beq_iff_eq.mpr c8
        have c8b1 : (a0 != 36) = false := bne_eq_false_iff_eq.mpr c8
        clear c8
        obtain rfl := Option.some.inj H
        go_enter Tryd.func29, Tryd.ntmps29
        go_wp2
        go_ret
        exact ⟨by first | rfl | (simp; done) | (simp [*]; done), by repeat (first | exact Drawn0.refl _ | apply Drawn0.step)⟩
       ·
        rw [if_neg c8] at H
        have c8b0 : (a0 == 36) = false := beq_eq_false_iff_ne.mpr c8
        have c8b1 : (a0 != 36) = true := bne_iff_ne.mpr c8
        obtain rfl := Option.some.inj H
        go_enter Tryd.func29, Tryd.ntmps29
        go_wp2
        go_ret
        exact ⟨by first | rfl | (simp; done) | (simp [*]; done), by repeat (first | exact Drawn0.refl _ | apply Drawn0.step)⟩
   ·
    rw [if_neg c4] at H
    have c4b0 : decide (65 ≤ a0) = false := decide_eq_false c4
    clear c4
    by_cases c9 : a0 = 95
    ·
     rw [if_pos c9] at H
     have c9b0 : (a0 == 95) = true := beq_iff_eq.mpr c9
     have c9b1 : (a0 != 95) = false := bne_eq_false_iff_eq.mpr c9
     clear c9
     obtain rfl := Option.some.inj H
     go_enter Tryd.func29, Tryd.ntmps29
     go_wp2
     go_ret
     exact ⟨by first | rfl | (simp; done) | (simp [*]; done), by repeat (first | exact Drawn0.refl _ | apply Drawn0.step)⟩
    ·
     rw [if_neg c9] at H
     have c9b0 : (a0 == 95) = false := beq_eq_false_iff_ne.mpr c9
     have c9b1 : (a0 != 95) = true := bne_iff_ne.mpr c9
     by_cases c10 : a0 = 46
     ·
      rw [if_pos c10] at H
      have c10b0 : (a0 == 46) = true := beq_iff_eq.mpr c10
      have c10b1 : (a0 != 46) = false := bne_eq_false_iff_eq.mpr c10
      clear c10
      obtain rfl := Option.some.inj H
      go_enter Tryd.func29, Tryd.ntmps29
      go_wp2
      go_ret
      exact ⟨by first | rfl | (simp; done) | (simp [*]; done), by repeat (first | exact Drawn0.refl _ | apply Drawn0.step)⟩
     ·
      rw [if_neg c10] at H
      have c10b0 : (a0 == 46) = false := beq_eq_false_iff_ne.mpr c10
      have c10b1 : (a0 != 46) = true := bne_iff_ne.mpr c10
      by_cases c11 : a0 = 36
      ·
       rw [if_pos c11] at H
       have c11b0 : (a0 == 36) = true := beq_iff_eq.mpr c11
       have c11b1 : (a0 != 36) = false := bne_eq_false_iff_eq.mpr c11
       clear c11
       obtain rfl := Option.some.inj H
       go_enter Tryd.func29, Tryd.ntmps29
       go_wp2
       go_ret
       exact ⟨by first | rfl | (simp; done) | (simp [*]; done), by repeat (first | exact Drawn0.refl _ | apply Drawn0.step)⟩
      ·
       rw [if_neg c11] at H
       have c11b0 : (a0 == 36) = false := beq_eq_false_iff_ne.mpr c11
       have c11b1 : (a0 != 36) = true := bne_iff_ne.mpr c11
       obtain rfl := Option.some.inj H
       go_enter Tryd.func29, Tryd.ntmps29
       go_wp2
       go_ret
       exact ⟨by first | rfl | (simp; done) | (simp [*]; done), by repeat (first | exact Drawn0.refl _ | apply Drawn0.step)⟩
 ·
  rw [if_neg c2] at H
  have c2b0 : decide (97 ≤ a0) = false := decide_eq_false c2
  clear c2
  by_cases c12 : a0 ≥ 65
  ·
   rw [if_pos c12] at H
   have c12b0 : decide (65 ≤ a0) = true := decide_eq_true c12
   clear c12
   by_cases c13 : a0 ≤ 90
   ·
    rw [if_pos c13] at H
    have c13b0 : decide (a0 ≤ 90) = true := decide_eq_true c13
    clear c13
    obtain rfl := Option.some.inj H
    go_enter Tryd.func29, Tryd.ntmps29
    go_wp2
    go_ret
    exact ⟨by first | rfl | (simp; done) | (simp [*]; done), by repeat (first | exact Drawn0.refl _ | apply Drawn0.step)⟩
   ·
    rw [if_neg c13] at H
    have c13b0 : decide (a0 ≤ 90) = false := decide_eq_false c13
    clear c13
    by_cases c14 : a0 = 95
    ·
     rw [if_pos c14] at H
     have c14b0 : (a0 == 95) = true := beq_iff_eq.mpr c14
     have c14b1 : (a0 != 95) = false := bne_eq_false_iff_eq.mpr c14
     clear c14
     obtain rfl := Option.some.inj H
     go_enter Tryd.func29, Tryd.ntmps29
     go_wp2
     go_ret
     exact ⟨by first | rfl | (simp; done) | (simp [*]; done), by repeat (first | exact Drawn0.refl _ | apply Drawn0.step)⟩
    ·
     rw [if_neg c14] at H
     have c14b0 : (a0 == 95) = false := beq_eq_false_iff_ne.mpr c14
     have c14b1 : (a0 != 95) = true := bne_iff_ne.mpr c14
     by_cases c15 : a0 = 46
     ·
      rw [if_pos c15] at H
      have c15b0 : (a0 == 46) = true := beq_iff_eq.mpr c15
      have c15b1 : (a0 != 46) = false := bne_eq_false_iff_eq.mpr c15
      clear c15
      obtain rfl := Option.some.inj H
      go_enter Tryd.func29, Tryd.ntmps29
      go_wp2
      go_ret
      exact ⟨by first | rfl | (simp; done) | (simp [*]; done), by repeat (first | exact Drawn0.refl _ | apply Drawn0.step)⟩
     ·
      rw [if_neg c15] at H
      have c15b0 : (a0 == 46) = false := beq_eq_false_iff_ne.mpr c15
      have c15b1 : (a0 != 46) = true := bne_iff_ne.mpr c15
      by_cases c16 : a0 = 36
      ·
       rw [if_pos c16] at H
       have c16b0 : (a0 == 36) = true := beq_iff_eq.mpr c16
       have c16b1 : (a0 != 36) = false := bne_eq_false_iff_eq.mpr c16
       clear c16
       obtain rfl := Option.some.inj H
       go_enter Tryd.func29, Tryd.ntmps29
       go_wp2
       go_ret
       exact ⟨by first | rfl | (simp; done) | (simp [*]; done), by repeat (first | exact Drawn0.refl _ | apply Drawn0.step)⟩
      ·
       rw [if_neg c16] at H
       have c16b0 : (a0 == 36) = false := beq_eq_false_iff_ne.mpr c16
       have c16b1 : (a0 != 36) = true := bne_iff_ne.mpr c16
       obtain rfl := Option.some.inj H
       go_enter Tryd.func29, Tryd.ntmps29
       go_wp2
       go_ret
       exact ⟨by first | rfl | (simp; done) | (simp [*]; done), by repeat (first | exact Drawn0.refl _ | apply Drawn0.step)⟩
  ·
   rw [if_neg c12] at H
   have c12b0 : decide (65 ≤ a0) = false := decide_eq_false c12
   clear c12
   by_cases c17 : a0 = 95
   ·
    rw [if_pos c17] at H
    have c17b0 : (a0 == 95) = true := beq_iff_eq.mpr c17
    have c17b1 : (a0 != 95) = false := bne_eq_false_iff_eq.mpr c17
    clear c17
    obtain rfl := Option.some.inj H
    go_enter Tryd.func29, Tryd.ntmps29
    go_wp2
    go_ret
    exact ⟨by first | rfl | (simp; done) | (simp [*]; done), by repeat (first | exact Drawn0.refl _ | apply Drawn0.step)⟩
   ·
    rw [if_neg c17] at H
    have c17b0 : (a0 == 95) = false := beq_eq_false_iff_ne.mpr c17
    have c17b1 : (a0 != 95) = true := bne_iff_ne.mpr c17
    by_cases c18 : a0 = 46
    ·
     rw [if_pos c18] at H
     have c18b0 : (a0 == 46) = true := beq_iff_eq.mpr c18
     have c18b1 : (a0 != 46) = false := bne_eq_false_iff_eq.mpr c18
     clear c18
     obtain rfl := Option.some.inj H
     go_enter Tryd.func29, Tryd.ntmps29
     go_wp2
     go_ret
     exact ⟨by first | rfl | (simp; done) | (simp [*]; done), by repeat (first | exact Drawn0.refl _ | apply Drawn0.step)⟩
    ·
     rw [if_neg c18] at H
     have c18b0 : (a0 == 46) = false := beq_eq_false_iff_ne.mpr c18
     have c18b1 : (a0 != 46) = true := bne_iff_ne.mpr c18
     by_cases c19 : a0 = 36
     ·
      rw [if_pos c19] at H
      have c19b0 : (a0 == 36) = true := beq_iff_eq.mpr c19
      have c19b1 : (a0 != 36) = false := bne_eq_false_iff_eq.mpr c19
      clear c19
      obtain rfl := Option.some.inj H
      go_enter Tryd.func29, Tryd.ntmps29
      go_wp2
      go_ret
      exact ⟨by first | rfl | (simp; done) | (simp [*]; done), by repeat (first | exact Drawn0.refl _ | apply Drawn0.step)⟩
     ·
      rw [if_neg c19] at H
      have c19b0 : (a0 == 36) = false := beq_eq_false_iff_ne.mpr c19
      have c19b1 : (a0 != 36) = true := bne_iff_ne.mpr c19
      obtain rfl := Option.some.inj H
      go_enter Tryd.func29, Tryd.ntmps29
      go_wp2
      go_ret
      exact ⟨by first | rfl | (simp; done) | (simp [*]; done), by repeat (first | exact Drawn0.refl _ | apply Drawn0.step)⟩

def lex_digit.f (a0 : Int) : Option (Bool) := if a0 ≥ 48 then (some (decide (a0 ≤ 57))) else (some false)
set_option maxHeartbeats 8000000 in
set_option maxRecDepth 100000 in
theorem lex_digit.calls (a0 : Int) (r : Bool) (w : World) (h : lex_digit.f a0 = some r) :
  Calls Tryd.prog 45 #[.int .u8 a0] w fun e w' => e = .returned (.bool r) ∧ Drawn0 w w' := by
 have H : (if a0 ≥ 48 then (some (decide (a0 ≤ 57))) else (some false)) = some r := h
 clear h
 by_cases c2 : a0 ≥ 48
 ·
  rw [if_pos c2] at H
  have c2b0 : decide (48 ≤ a0) = true := decide_eq_true c2
  clear c2
  obtain rfl := Option.some.inj H
  go_enter Tryd.func45, Tryd.ntmps45
  go_wp2
  go_ret
  exact ⟨by first | rfl | (simp; done) | (simp [*]; done), by repeat (first | exact Drawn0.refl _ | apply Drawn0.step)⟩
 ·
  rw [if_neg c2] at H
  have c2b0 : decide (48 ≤ a0) = false := decide_eq_false c2
  clear c2
  obtain rfl := Option.some.inj H
  go_enter Tryd.func45, Tryd.ntmps45
  go_wp2
  go_ret
  exact ⟨by first | rfl | (simp; done) | (simp [*]; done), by repeat (first | exact Drawn0.refl _ | apply Drawn0.step)⟩

def lex_inside.f (a0 : Int) : Option (Bool) := (lex_start.f a0).bind fun t104 => (if t104 = true then (if a0 = 37 then ((lex_digit.f a0).bind fun t105 => (some t105)) else (some true)) else ((lex_digit.f a0).bind fun t106 => (some t106)))
set_option maxHeartbeats 8000000 in
set_option maxRecDepth 100000 in
theorem lex_inside.calls (a0 : Int) (r : Bool) (w : World) (h : lex_inside.f a0 = some r) :
  Calls Tryd.prog 31 #[.int .u8 a0] w fun e w' => e = .returned (.bool r) ∧ Drawn0 w w' := by
 have H : ((lex_start.f a0).bind fun t104 => (if t104 = true then (if a0 = 37 then ((lex_digit.f a0).bind fun t105 => (some t105)) else (some true)) else ((lex_digit.f a0).bind fun t106 => (some t106)))) = some r := h
 clear h
 replace H := Option.bind_eq_some_iff.mp H
 obtain ⟨t104, A20, H⟩ := H
 replace H : (if t104 = true then (if a0 = 37 then ((lex_digit.f a0).bind fun t105 => (some t105)) else (some true)) else ((lex_digit.f a0).bind fun t106 => (some t106))) = some r := H
 have A2 := Aside0.mk A20
 clear A20
 by_cases c3 : t104 = true
 ·
  subst c3
  have H1 : (if a0 = 37 then ((lex_digit.f a0).bind fun t105 => (some t105)) else (some true)) = some r := by rw [if_pos rfl] at H; exact H
  clear H
  have H := H1
  clear H1
  by_cases c4 : a0 = 37
  ·
   rw [if_pos c4] at H
   have c4b0 : (a0 == 37) = true := beq_iff_eq.mpr c4
   have c4b1 : (a0 != 37) = false := bne_eq_false_iff_eq.mpr c4
   clear c4
   replace H := Option.bind_eq_some_iff.mp H
   obtain ⟨t105, A50, H⟩ := H
   replace H : (some t105) = some r := H
   have A5 := Aside0.mk A50
   clear A50
   obtain rfl := Option.some.inj H
   go_enter Tryd.func31, Tryd.ntmps31
   go_wp2_with (first | ((with_reducible refine gate_callee (f := 29) rfl ?_); refine goesL_ (some 4) rfl rfl Tryd.func29 (by kernel_rfl) rfl #[.int .u8 a0] rfl (by (try simp only [List.map_toArray, List.map_cons, List.map_nil]); first | done | rfl | (simp only [List.length_drop, List.length_take]; rfl)) ?_; (with_reducible refine (lex_start.calls a0 true _ A2.out).mono ?_); rintro e w' ⟨rfl, ⟨nd, rfl⟩⟩; refine ⟨_, rfl, ?_⟩) | (go_at_call 45; (with_reducible refine (lex_digit.calls a0 t105 _ A5.out).mono ?_); rintro e w' ⟨rfl, ⟨nd, rfl⟩⟩))
   go_ret
   exact ⟨by first | rfl | (simp; done) | (simp [*]; done), by repeat (first | exact Drawn0.refl _ | apply Drawn0.step)⟩
  ·
   rw [if_neg c4] at H
   have c4b0 : (a0 == 37) = false := beq_eq_false_iff_ne.mpr c4
   have c4b1 : (a0 != 37) = true := bne_iff_ne.mpr c4
   obtain rfl := Option.some.inj H
   go_enter Tryd.func31, Tryd.ntmps31
   go_wp2_with (first | ((with_reducible refine gate_callee (f := 29) rfl ?_); refine goesL_ (some 4) rfl rfl Tryd.func29 (by kernel_rfl) rfl #[.int .u8 a0] rfl (by (try simp only [List.map_toArray, List.map_cons, List.map_nil]); first | done | rfl | (simp only [List.length_drop, List.length_take]; rfl)) ?_; (with_reducible refine (lex_start.calls a0 true _ A2.out).mono ?_); rintro e w' ⟨rfl, ⟨nd, rfl⟩⟩; refine ⟨_, rfl, ?_⟩))
   go_ret
   exact ⟨by first | rfl | (simp; done) | (simp [*]; done), by repeat (first | exact Drawn0.refl _ | apply Drawn0.step)⟩
 ·
  replace c3 := Bool.eq_false_iff.mpr c3
  subst c3
  have H1 : ((lex_digit.f a0).bind fun t106 => (some t106)) = some r := by rw [if_neg (show ¬ (false = true) by decide)] at H; exact H
  clear H
  have H := H1
  clear H1
  replace H := Option.bind_eq_some_iff.mp H
  obtain ⟨t106, A60, H⟩ := H
  replace H : (some t106) = some r := H
  have A6 := Aside0.mk A60
  clear A60
  obtain rfl := Option.some.inj H
  go_enter Tryd.func31, Tryd.ntmps31
  go_wp2_with (first | ((with_reducible refine gate_callee (f := 29) rfl ?_); refine goesL_ (some 4) rfl rfl Tryd.func29 (by kernel_rfl) rfl #[.int .u8 a0] rfl (by (try simp only [List.map_toArray, List.map_cons, List.map_nil]); first | done | rfl | (simp only [List.length_drop, List.length_take]; rfl)) ?_; (with_reducible refine (lex_start.calls a0 false _ A2.out).mono ?_); rintro e w' ⟨rfl, ⟨nd, rfl⟩⟩; refine ⟨_, rfl, ?_⟩) | (go_at_call 45; (with_reducible refine (lex_digit.calls a0 t106 _ A6.out).mono ?_); rintro e w' ⟨rfl, ⟨nd, rfl⟩⟩))
  go_ret
  exact ⟨by first | rfl | (simp; done) | (simp [*]; done), by repeat (first | exact Drawn0.refl _ | apply Drawn0.step)⟩

def lex_many_by_lex_inside.l0 : Nat → ByteArray → Int → Option (Int)
 | 0, _, _ => none
 | k + 1, x0, x5 => if x5 < (x0.size : Int) then (if 0 ≤ x5 then ((lex_inside.f (bt x0 x5)).bind fun t107 => (if t107 = true then (lex_many_by_lex_inside.l0 k x0 (wrap64 (x5 + 1))) else (some x5))) else (none)) else (some x5)
def lex_many_by_lex_inside.f (k : Nat) (a0 : ByteArray)  : Option (Int) := lex_many_by_lex_inside.l0 k a0 0
set_option maxHeartbeats 8000000 in
set_option maxRecDepth 100000 in
theorem lex_many_by_lex_inside.calls (k : Nat) (a0 : ByteArray)  (r : Int) (w : World) (h : lex_many_by_lex_inside.f k a0 = some r) :
  Calls Tryd.prog 30 #[.string a0, .func (.func 31) #[] #[]] w fun e w' => e = .returned (.int .i64 r) ∧ Drawn0 w w' := by
 have H : (lex_many_by_lex_inside.l0 k a0 0) = some r := h
 clear h
 have H' := Aside0.mk H
 clear H
 go_enter Tryd.func30, Tryd.ntmps30
 go_wp2
 go_loopg [5] k (fun kq v5 w' => ∃ (x5_1 : Int), v5 = .int .i64 x5_1 ∧ Aside0 (lex_many_by_lex_inside.l0 kq a0 x5_1 = some r) ∧ Aside0 (kq ≤ k) ∧ Drawn0 w w')
 case atStart => exact ⟨(0), (by first | rfl | (simp; done) | (simp [*]; done)), H', ⟨Nat.le_refl _⟩, by repeat (first | exact Drawn0.refl _ | apply Drawn0.step)⟩
 case round =>
  clear H'
  try clear p2
  obtain ⟨x5_1, rfl, HA, HK1, ⟨m1, rfl⟩⟩ := hrel
  cases gk with
  | zero => exact absurd HA.out (by simp [lex_many_by_lex_inside.l0])
  | succ k1 =>
   have H := HA.out
   clear HA
   simp only [lex_many_by_lex_inside.l0] at H
   by_cases c3 : x5_1 < (a0.size : Int)
   ·
    rw [if_pos c3] at H
    have c3b0 : decide (x5_1 < (a0.size : Int)) = true := decide_eq_true c3
    clear c3
    by_cases c4 : 0 ≤ x5_1
    ·
     rw [if_pos c4] at H
     have c4b0 : decide (0 ≤ x5_1) = true := decide_eq_true c4
     clear c4
     replace H := Option.bind_eq_some_iff.mp H
     obtain ⟨t107, A60, H⟩ := H
     replace H : (if t107 = true then (lex_many_by_lex_inside.l0 k1 a0 (wrap64 (x5_1 + 1))) else (some x5_1)) = some r := H
     have A6 := Aside0.mk A60
     clear A60
     by_cases c7 : t107 = true
     ·
      subst c7
      have H1 : (lex_many_by_lex_inside.l0 k1 a0 (wrap64 (x5_1 + 1))) = some r := by rw [if_pos rfl] at H; exact H
      clear H
      have H := H1
      clear H1
      have H' := Aside0.mk H
      clear H
      have p5 : 0 ≤ (x5_1 : Int) := of_decide_eq_true (by first | (with_reducible assumption) | assumption)
      have q5 : x5_1 < (a0.size : Int) := of_decide_eq_true (by first | (with_reducible assumption) | assumption)
      have hx5 := bt_at a0 x5_1
      replace p5 := eq_true p5
      replace q5 := eq_true q5
      go_wp2_with (first | (go_at_call 31; (with_reducible refine (lex_inside.calls (bt a0 x5_1) true _ A6.out).mono ?_); rintro e w' ⟨rfl, ⟨nd, rfl⟩⟩))
      go_roundg k1
      case measure => have := HK1.out; omega
      case rel => exact ⟨(wrap64 (x5_1 + 1)), (by first | rfl | (simp; done) | (simp [*]; done)), H', ⟨by have := HK1.out; omega⟩, by repeat (first | exact Drawn0.refl _ | apply Drawn0.step)⟩
     ·
      replace c7 := Bool.eq_false_iff.mpr c7
      subst c7
      have H1 : (some x5_1) = some r := by rw [if_neg (show ¬ (false = true) by decide)] at H; exact H
      clear H
      have H := H1
      clear H1
      obtain rfl := Option.some.inj H
      have p5 : 0 ≤ (x5_1 : Int) := of_decide_eq_true (by first | (with_reducible assumption) | assumption)
      have q5 : x5_1 < (a0.size : Int) := of_decide_eq_true (by first | (with_reducible assumption) | assumption)
      have hx5 := bt_at a0 x5_1
      replace p5 := eq_true p5
      replace q5 := eq_true q5
      go_wp2_with (first | (go_at_call 31; (with_reducible refine (lex_inside.calls (bt a0 x5_1) false _ A6.out).mono ?_); rintro e w' ⟨rfl, ⟨nd, rfl⟩⟩))
      go_ret
      exact ⟨by first | rfl | (simp; done) | (simp [*]; done), by repeat (first | exact Drawn0.refl _ | apply Drawn0.step)⟩
    ·
     rw [if_neg c4] at H
     exact absurd H (by simp)
   ·
    rw [if_neg c3] at H
    have c3b0 : decide (x5_1 < (a0.size : Int)) = false := decide_eq_false c3
    clear c3
    obtain rfl := Option.some.inj H
    go_wp2
    go_ret
    exact ⟨by first | rfl | (simp; done) | (simp [*]; done), by repeat (first | exact Drawn0.refl _ | apply Drawn0.step)⟩

def lex_name.f (k : Nat) (a0 : ByteArray) : Option (Bool) := if (a0.size : Int) ≥ 1 then (if (a0.size : Int) ≤ 32 then (if 0 < (a0.size : Int) then ((lex_start.f (bt a0 0)).bind fun t108 => (if t108 = true then (if 1 ≤ (a0.size : Int) then ((lex_many_by_lex_inside.f k (a0.extract 1 a0.size)).bind fun t109 => (some (t109 == (wrap64 ((a0.size : Int) - 1))))) else (none)) else (some false))) else (none)) else (some false)) else (some false)
set_option maxHeartbeats 8000000 in
set_option maxRecDepth 100000 in
theorem lex_name.calls (k : Nat) (a0 : ByteArray) (r : Bool) (w : World) (h : lex_name.f k a0 = some r) :
  Calls Tryd.prog 32 #[.string a0] w fun e w' => e = .returned (.bool r) ∧ Drawn0 w w' := by
 have H : (if (a0.size : Int) ≥ 1 then (if (a0.size : Int) ≤ 32 then (if 0 < (a0.size : Int) then ((lex_start.f (bt a0 0)).bind fun t108 => (if t108 = true then (if 1 ≤ (a0.size : Int) then ((lex_many_by_lex_inside.f k (a0.extract 1 a0.size)).bind fun t109 => (some (t109 == (wrap64 ((a0.size : Int) - 1))))) else (none)) else (some false))) else (none)) else (some false)) else (some false)) = some r := h
 clear h
 by_cases c2 : (a0.size : Int) ≥ 1
 ·
  rw [if_pos c2] at H
  have c2b0 : decide (1 ≤ (a0.size : Int)) = true := decide_eq_true c2
  have c2b1 : decide (1 ≤ a0.size) = true := decide_eq_true (by omega)
  clear c2
  by_cases c3 : (a0.size : Int) ≤ 32
  ·
   rw [if_pos c3] at H
   have c3b0 : decide ((a0.size : Int) ≤ 32) = true := decide_eq_true c3
   have c3b1 : decide (a0.size ≤ 32) = true := decide_eq_true (by omega)
   clear c3
   by_cases c4 : 0 < (a0.size : Int)
   ·
    rw [if_pos c4] at H
    have c4b0 : decide (0 < (a0.size : Int)) = true := decide_eq_true c4
    have c4b1 : decide (0 < a0.size) = true := decide_eq_true (by omega)
    clear c4
    replace H := Option.bind_eq_some_iff.mp H
    obtain ⟨t108, A60, H⟩ := H
    replace H : (if t108 = true then (if 1 ≤ (a0.size : Int) then ((lex_many_by_lex_inside.f k (a0.extract 1 a0.size)).bind fun t109 => (some (t109 == (wrap64 ((a0.size : Int) - 1))))) else (none)) else (some false)) = some r := H
    have A6 := Aside0.mk A60
    clear A60
    by_cases c7 : t108 = true
    ·
     subst c7
     have H1 : (if 1 ≤ (a0.size : Int) then ((lex_many_by_lex_inside.f k (a0.extract 1 a0.size)).bind fun t109 => (some (t109 == (wrap64 ((a0.size : Int) - 1))))) else (none)) = some r := by rw [if_pos rfl] at H; exact H
     clear H
     have H := H1
     clear H1
     by_cases c8 : 1 ≤ (a0.size : Int)
     ·
      rw [if_pos c8] at H
      have c8b0 := eq_true c8
      have c8b1 : decide (1 ≤ (a0.size : Int)) = true := decide_eq_true c8
      clear c8
      replace H := Option.bind_eq_some_iff.mp H
      obtain ⟨t109, A90, H⟩ := H
      replace H : (some (t109 == (wrap64 ((a0.size : Int) - 1)))) = some r := H
      have A9 := Aside0.mk A90
      clear A90
      obtain rfl := Option.some.inj H
      have p5 : 0 ≤ (0 : Int) := (by omega)
      have q5 : 0 < a0.size := (by have : (0 : Int) < (a0.size : Int) := of_decide_eq_true (by first | (with_reducible assumption) | assumption); omega)
      have hx5 : ∀ h : 0 < a0.size, ((a0[0]'h).toNat : Int) = bt a0 0 := bt_at a0 0
      clear p5
      have qi5 : (0 < (a0.size : Int)) = True := eq_true (of_decide_eq_true (by first | (with_reducible assumption) | assumption))
      replace q5 := eq_true q5
      go_enter Tryd.func32, Tryd.ntmps32
      go_wp2_with (first | (go_at_call 29; (with_reducible refine (lex_start.calls (bt a0 0) true _ A6.out).mono ?_); rintro e w' ⟨rfl, ⟨nd, rfl⟩⟩) | (go_at_call 30; (with_reducible refine (lex_many_by_lex_inside.calls k (a0.extract 1 a0.size)  t109 _ A9.out).mono ?_); rintro e w' ⟨rfl, ⟨nd, rfl⟩⟩))
      go_ret
      exact ⟨by first | rfl | (simp; done) | (simp [*]; done), by repeat (first | exact Drawn0.refl _ | apply Drawn0.step)⟩
     ·
      rw [if_neg c8] at H
      exact absurd H (by simp)
    ·
     replace c7 := Bool.eq_false_iff.mpr c7
     subst c7
     have H1 : (some false) = some r := by rw [if_neg (show ¬ (false = true) by decide)] at H; exact H
     clear H
     have H := H1
     clear H1
     obtain rfl := Option.some.inj H
     have p5 : 0 ≤ (0 : Int) := (by omega)
     have q5 : 0 < a0.size := (by have : (0 : Int) < (a0.size : Int) := of_decide_eq_true (by first | (with_reducible assumption) | assumption); omega)
     have hx5 : ∀ h : 0 < a0.size, ((a0[0]'h).toNat : Int) = bt a0 0 := bt_at a0 0
     clear p5
     have qi5 : (0 < (a0.size : Int)) = True := eq_true (of_decide_eq_true (by first | (with_reducible assumption) | assumption))
     replace q5 := eq_true q5
     go_enter Tryd.func32, Tryd.ntmps32
     go_wp2_with (first | (go_at_call 29; (with_reducible refine (lex_start.calls (bt a0 0) false _ A6.out).mono ?_); rintro e w' ⟨rfl, ⟨nd, rfl⟩⟩))
     go_ret
     exact ⟨by first | rfl | (simp; done) | (simp [*]; done), by repeat (first | exact Drawn0.refl _ | apply Drawn0.step)⟩
   ·
    rw [if_neg c4] at H
    exact absurd H (by simp)
  ·
   rw [if_neg c3] at H
   have c3b0 : decide ((a0.size : Int) ≤ 32) = false := decide_eq_false c3
   have c3b1 : decide (a0.size ≤ 32) = false := decide_eq_false (by omega)
   clear c3
   obtain rfl := Option.some.inj H
   go_enter Tryd.func32, Tryd.ntmps32
   go_wp2
   go_ret
   exact ⟨by first | rfl | (simp; done) | (simp [*]; done), by repeat (first | exact Drawn0.refl _ | apply Drawn0.step)⟩
 ·
  rw [if_neg c2] at H
  have c2b0 : decide (1 ≤ (a0.size : Int)) = false := decide_eq_false c2
  have c2b1 : decide (1 ≤ a0.size) = false := decide_eq_false (by omega)
  clear c2
  obtain rfl := Option.some.inj H
  go_enter Tryd.func32, Tryd.ntmps32
  go_wp2
  go_ret
  exact ⟨by first | rfl | (simp; done) | (simp [*]; done), by repeat (first | exact Drawn0.refl _ | apply Drawn0.step)⟩

def lex_many_by_lex_digit.l0 : Nat → ByteArray → Int → Option (Int)
 | 0, _, _ => none
 | k + 1, x0, x5 => if x5 < (x0.size : Int) then (if 0 ≤ x5 then ((lex_digit.f (bt x0 x5)).bind fun t110 => (if t110 = true then (lex_many_by_lex_digit.l0 k x0 (wrap64 (x5 + 1))) else (some x5))) else (none)) else (some x5)
def lex_many_by_lex_digit.f (k : Nat) (a0 : ByteArray)  : Option (Int) := lex_many_by_lex_digit.l0 k a0 0
set_option maxHeartbeats 8000000 in
set_option maxRecDepth 100000 in
theorem lex_many_by_lex_digit.calls (k : Nat) (a0 : ByteArray)  (r : Int) (w : World) (h : lex_many_by_lex_digit.f k a0 = some r) :
  Calls Tryd.prog 30 #[.string a0, .func (.func 45) #[] #[]] w fun e w' => e = .returned (.int .i64 r) ∧ Drawn0 w w' := by
 have H : (lex_many_by_lex_digit.l0 k a0 0) = some r := h
 clear h
 have H' := Aside0.mk H
 clear H
 go_enter Tryd.func30, Tryd.ntmps30
 go_wp2
 go_loopg [5] k (fun kq v5 w' => ∃ (x5_1 : Int), v5 = .int .i64 x5_1 ∧ Aside0 (lex_many_by_lex_digit.l0 kq a0 x5_1 = some r) ∧ Aside0 (kq ≤ k) ∧ Drawn0 w w')
 case atStart => exact ⟨(0), (by first | rfl | (simp; done) | (simp [*]; done)), H', ⟨Nat.le_refl _⟩, by repeat (first | exact Drawn0.refl _ | apply Drawn0.step)⟩
 case round =>
  clear H'
  try clear p2
  obtain ⟨x5_1, rfl, HA, HK1, ⟨m1, rfl⟩⟩ := hrel
  cases gk with
  | zero => exact absurd HA.out (by simp [lex_many_by_lex_digit.l0])
  | succ k1 =>
   have H := HA.out
   clear HA
   simp only [lex_many_by_lex_digit.l0] at H
   by_cases c3 : x5_1 < (a0.size : Int)
   ·
    rw [if_pos c3] at H
    have c3b0 : decide (x5_1 < (a0.size : Int)) = true := decide_eq_true c3
    clear c3
    by_cases c4 : 0 ≤ x5_1
    ·
     rw [if_pos c4] at H
     have c4b0 : decide (0 ≤ x5_1) = true := decide_eq_true c4
     clear c4
     replace H := Option.bind_eq_some_iff.mp H
     obtain ⟨t110, A60, H⟩ := H
     replace H : (if t110 = true then (lex_many_by_lex_digit.l0 k1 a0 (wrap64 (x5_1 + 1))) else (some x5_1)) = some r := H
     have A6 := Aside0.mk A60
     clear A60
     by_cases c7 : t110 = true
     ·
      subst c7
      have H1 : (lex_many_by_lex_digit.l0 k1 a0 (wrap64 (x5_1 + 1))) = some r := by rw [if_pos rfl] at H; exact H
      clear H
      have H := H1
      clear H1
      have H' := Aside0.mk H
      clear H
      have p5 : 0 ≤ (x5_1 : Int) := of_decide_eq_true (by first | (with_reducible assumption) | assumption)
      have q5 : x5_1 < (a0.size : Int) := of_decide_eq_true (by first | (with_reducible assumption) | assumption)
      have hx5 := bt_at a0 x5_1
      replace p5 := eq_true p5
      replace q5 := eq_true q5
      go_wp2_with (first | (go_at_call 45; (with_reducible refine (lex_digit.calls (bt a0 x5_1) true _ A6.out).mono ?_); rintro e w' ⟨rfl, ⟨nd, rfl⟩⟩))
      go_roundg k1
      case measure => have := HK1.out; omega
      case rel => exact ⟨(wrap64 (x5_1 + 1)), (by first | rfl | (simp; done) | (simp [*]; done)), H', ⟨by have := HK1.out; omega⟩, by repeat (first | exact Drawn0.refl _ | apply Drawn0.step)⟩
     ·
      replace c7 := Bool.eq_false_iff.mpr c7
      subst c7
      have H1 : (some x5_1) = some r := by rw [if_neg (show ¬ (false = true) by decide)] at H; exact H
      clear H
      have H := H1
      clear H1
      obtain rfl := Option.some.inj H
      have p5 : 0 ≤ (x5_1 : Int) := of_decide_eq_true (by first | (with_reducible assumption) | assumption)
      have q5 : x5_1 < (a0.size : Int) := of_decide_eq_true (by first | (with_reducible assumption) | assumption)
      have hx5 := bt_at a0 x5_1
      replace p5 := eq_true p5
      replace q5 := eq_true q5
      go_wp2_with (first | (go_at_call 45; (with_reducible refine (lex_digit.calls (bt a0 x5_1) false _ A6.out).mono ?_); rintro e w' ⟨rfl, ⟨nd, rfl⟩⟩))
      go_ret
      exact ⟨by first | rfl | (simp; done) | (simp [*]; done), by repeat (first | exact Drawn0.refl _ | apply Drawn0.step)⟩
    ·
     rw [if_neg c4] at H
     exact absurd H (by simp)
   ·
    rw [if_neg c3] at H
    have c3b0 : decide (x5_1 < (a0.size : Int)) = false := decide_eq_false c3
    clear c3
    obtain rfl := Option.some.inj H
    go_wp2
    go_ret
    exact ⟨by first | rfl | (simp; done) | (simp [*]; done), by repeat (first | exact Drawn0.refl _ | apply Drawn0.step)⟩

def lex_local.f (k : Nat) (a0 : ByteArray) : Option (Bool) := (lex_many_by_lex_digit.f k a0).bind fun t111 => (if t111 ≥ 1 then (if t111 ≤ 9 then (if (a0.size : Int) = (wrap64 (t111 + 1)) then (if 0 ≤ t111 then (if t111 < (a0.size : Int) then (if (bt a0 t111) = 102 then (some true) else (some ((bt a0 t111) == 98))) else (none)) else (none)) else (some false)) else (some false)) else (some false))
set_option maxHeartbeats 8000000 in
set_option maxRecDepth 100000 in
theorem lex_local.calls (k : Nat) (a0 : ByteArray) (r : Bool) (w : World) (h : lex_local.f k a0 = some r) :
  Calls Tryd.prog 33 #[.string a0] w fun e w' => e = .returned (.bool r) ∧ Drawn0 w w' := by
 have H : ((lex_many_by_lex_digit.f k a0).bind fun t111 => (if t111 ≥ 1 then (if t111 ≤ 9 then (if (a0.size : Int) = (wrap64 (t111 + 1)) then (if 0 ≤ t111 then (if t111 < (a0.size : Int) then (if (bt a0 t111) = 102 then (some true) else (some ((bt a0 t111) == 98))) else (none)) else (none)) else (some false)) else (some false)) else (some false))) = some r := h
 clear h
 replace H := Option.bind_eq_some_iff.mp H
 obtain ⟨t111, A20, H⟩ := H
 replace H : (if t111 ≥ 1 then (if t111 ≤ 9 then (if (a0.size : Int) = (wrap64 (t111 + 1)) then (if 0 ≤ t111 then (if t111 < (a0.size : Int) then (if (bt a0 t111) = 102 then (some true) else (some ((bt a0 t111) == 98))) else (none)) else (none)) else (some false)) else (some false)) else (some false)) = some r := H
 have A2 := Aside0.mk A20
 clear A20
 by_cases c3 : t111 ≥ 1
 ·
  rw [if_pos c3] at H
  have c3b0 : decide (1 ≤ t111) = true := decide_eq_true c3
  clear c3
  by_cases c4 : t111 ≤ 9
  ·
   rw [if_pos c4] at H
   have c4b0 : decide (t111 ≤ 9) = true := decide_eq_true c4
   clear c4
   by_cases c5 : (a0.size : Int) = (wrap64 (t111 + 1))
   ·
    rw [if_pos c5] at H
    have c5b0 : ((a0.size : Int) == (wrap64 (t111 + 1))) = true := beq_iff_eq.mpr c5
    have c5b1 : ((a0.size : Int) != (wrap64 (t111 + 1))) = false := bne_eq_false_iff_eq.mpr c5
    clear c5
    by_cases c6 : 0 ≤ t111
    ·
     rw [if_pos c6] at H
     have c6b0 : decide (0 ≤ t111) = true := decide_eq_true c6
     clear c6
     by_cases c7 : t111 < (a0.size : Int)
     ·
      rw [if_pos c7] at H
      have c7b0 : decide (t111 < (a0.size : Int)) = true := decide_eq_true c7
      clear c7
      by_cases c9 : (bt a0 t111) = 102
      ·
       rw [if_pos c9] at H
       have c9b0 : ((bt a0 t111) == 102) = true := beq_iff_eq.mpr c9
       have c9b1 : ((bt a0 t111) != 102) = false := bne_eq_false_iff_eq.mpr c9
       clear c9
       obtain rfl := Option.some.inj H
       go_enter Tryd.func33, Tryd.ntmps33
       go_wp2_with (first | ((with_reducible refine gate_callee (f := 30) rfl ?_); refine goesL_ (some 5) rfl rfl Tryd.func30 (by kernel_rfl) rfl #[.string a0, .func (.func 45) #[] #[]] rfl (by (try simp only [List.map_toArray, List.map_cons, List.map_nil]); first | done | rfl | (simp only [List.length_drop, List.length_take]; rfl)) ?_; (with_reducible refine (lex_many_by_lex_digit.calls k a0  t111 _ A2.out).mono ?_); rintro e w' ⟨rfl, ⟨nd, rfl⟩⟩; refine ⟨_, rfl, ?_⟩; have p8 : 0 ≤ (t111 : Int) := of_decide_eq_true (by first | (with_reducible assumption) | assumption); have q8 : t111 < (a0.size : Int) := of_decide_eq_true (by first | (with_reducible assumption) | assumption); have hx8 := bt_at a0 t111; replace p8 := eq_true p8; replace q8 := eq_true q8))
       go_ret
       exact ⟨by first | rfl | (simp; done) | (simp [*]; done), by repeat (first | exact Drawn0.refl _ | apply Drawn0.step)⟩
      ·
       rw [if_neg c9] at H
       have c9b0 : ((bt a0 t111) == 102) = false := beq_eq_false_iff_ne.mpr c9
       have c9b1 : ((bt a0 t111) != 102) = true := bne_iff_ne.mpr c9
       obtain rfl := Option.some.inj H
       go_enter Tryd.func33, Tryd.ntmps33
       go_wp2_with (first | ((with_reducible refine gate_callee (f := 30) rfl ?_); refine goesL_ (some 5) rfl rfl Tryd.func30 (by kernel_rfl) rfl #[.string a0, .func (.func 45) #[] #[]] rfl (by (try simp only [List.map_toArray, List.map_cons, List.map_nil]); first | done | rfl | (simp only [List.length_drop, List.length_take]; rfl)) ?_; (with_reducible refine (lex_many_by_lex_digit.calls k a0  t111 _ A2.out).mono ?_); rintro e w' ⟨rfl, ⟨nd, rfl⟩⟩; refine ⟨_, rfl, ?_⟩; have p8 : 0 ≤ (t111 : Int) := of_decide_eq_true (by first | (with_reducible assumption) | assumption); have q8 : t111 < (a0.size : Int) := of_decide_eq_true (by first | (with_reducible assumption) | assumption); have hx8 := bt_at a0 t111; replace p8 := eq_true p8; replace q8 := eq_true q8; have p10 : 0 ≤ (t111 : Int) := of_decide_eq_true (by first | (with_reducible assumption) | assumption); have q10 : t111 < (a0.size : Int) := of_decide_eq_true (by first | (with_reducible assumption) | assumption); have hx10 := bt_at a0 t111; replace p10 := eq_true p10; replace q10 := eq_true q10))
       go_ret
       exact ⟨by first | rfl | (simp; done) | (simp [*]; done), by repeat (first | exact Drawn0.refl _ | apply Drawn0.step)⟩
     ·
      rw [if_neg c7] at H
      exact absurd H (by simp)
    ·
     rw [if_neg c6] at H
     exact absurd H (by simp)
   ·
    rw [if_neg c5] at H
    have c5b0 : ((a0.size : Int) == (wrap64 (t111 + 1))) = false := beq_eq_false_iff_ne.mpr c5
    have c5b1 : ((a0.size : Int) != (wrap64 (t111 + 1))) = true := bne_iff_ne.mpr c5
    obtain rfl := Option.some.inj H
    go_enter Tryd.func33, Tryd.ntmps33
    go_wp2_with (first | ((with_reducible refine gate_callee (f := 30) rfl ?_); refine goesL_ (some 5) rfl rfl Tryd.func30 (by kernel_rfl) rfl #[.string a0, .func (.func 45) #[] #[]] rfl (by (try simp only [List.map_toArray, List.map_cons, List.map_nil]); first | done | rfl | (simp only [List.length_drop, List.length_take]; rfl)) ?_; (with_reducible refine (lex_many_by_lex_digit.calls k a0  t111 _ A2.out).mono ?_); rintro e w' ⟨rfl, ⟨nd, rfl⟩⟩; refine ⟨_, rfl, ?_⟩))
    go_ret
    exact ⟨by first | rfl | (simp; done) | (simp [*]; done), by repeat (first | exact Drawn0.refl _ | apply Drawn0.step)⟩
  ·
   rw [if_neg c4] at H
   have c4b0 : decide (t111 ≤ 9) = false := decide_eq_false c4
   clear c4
   obtain rfl := Option.some.inj H
   go_enter Tryd.func33, Tryd.ntmps33
   go_wp2_with (first | ((with_reducible refine gate_callee (f := 30) rfl ?_); refine goesL_ (some 5) rfl rfl Tryd.func30 (by kernel_rfl) rfl #[.string a0, .func (.func 45) #[] #[]] rfl (by (try simp only [List.map_toArray, List.map_cons, List.map_nil]); first | done | rfl | (simp only [List.length_drop, List.length_take]; rfl)) ?_; (with_reducible refine (lex_many_by_lex_digit.calls k a0  t111 _ A2.out).mono ?_); rintro e w' ⟨rfl, ⟨nd, rfl⟩⟩; refine ⟨_, rfl, ?_⟩))
   go_ret
   exact ⟨by first | rfl | (simp; done) | (simp [*]; done), by repeat (first | exact Drawn0.refl _ | apply Drawn0.step)⟩
 ·
  rw [if_neg c3] at H
  have c3b0 : decide (1 ≤ t111) = false := decide_eq_false c3
  clear c3
  obtain rfl := Option.some.inj H
  go_enter Tryd.func33, Tryd.ntmps33
  go_wp2_with (first | ((with_reducible refine gate_callee (f := 30) rfl ?_); refine goesL_ (some 5) rfl rfl Tryd.func30 (by kernel_rfl) rfl #[.string a0, .func (.func 45) #[] #[]] rfl (by (try simp only [List.map_toArray, List.map_cons, List.map_nil]); first | done | rfl | (simp only [List.length_drop, List.length_take]; rfl)) ?_; (with_reducible refine (lex_many_by_lex_digit.calls k a0  t111 _ A2.out).mono ?_); rintro e w' ⟨rfl, ⟨nd, rfl⟩⟩; refine ⟨_, rfl, ?_⟩))
  go_ret
  exact ⟨by first | rfl | (simp; done) | (simp [*]; done), by repeat (first | exact Drawn0.refl _ | apply Drawn0.step)⟩


def lex_shown.f (a0 : ByteArray) : Option (ByteArray × Bool) := if a0.size ≤ 100000000000 then some (LexW.shownF a0) else none
theorem lex_shown.calls (a0 : ByteArray) (r1 : ByteArray) (r2 : Bool) (w : World) (h : lex_shown.f a0 = some (r1, r2)) :
    Calls Tryd.prog 70 #[.string a0] w fun e w' => e = .returned (.tuple #[.string r1, .bool r2]) ∧ Below w.heap.size w w' := by
  unfold lex_shown.f at h
  by_cases c : a0.size ≤ 100000000000
  · rw [if_pos c] at h
    have := LexW.shown_calls a0 c w
    rw [Option.some.inj h] at this
    exact this
  · rw [if_neg c] at h
    cases h


def strconv_FormatUint.f (a0 a1 : Int) : Option ByteArray := if 0 ≤ a0 ∧ a0 < 18446744073709551616 ∧ a1 = 16 then some ⟨(LexW.hexL a0.toNat).toArray⟩ else none
theorem strconv_FormatUint.calls (a0 a1 : Int) (r : ByteArray) (w : World) (hD : LexW.LexD w) (h : strconv_FormatUint.f a0 a1 = some r) :
    Calls Tryd.prog 71 #[.int .u64 a0, .int .i64 a1] w fun e w' => e = .returned (.string r) ∧ Below w.heap.size w w' := by
  unfold strconv_FormatUint.f at h
  by_cases c : 0 ≤ a0 ∧ a0 < 18446744073709551616 ∧ a1 = 16
  · rw [if_pos c] at h
    obtain ⟨c0, c1, rfl⟩ := c
    obtain ⟨u, rfl⟩ := Int.eq_ofNat_of_zero_le c0
    rw [← Option.some.inj h]
    exact LexW.fu16 u (by omega) w hD
  · rw [if_neg c] at h
    cases h


def strings_Repeat.f (a0 : ByteArray) (a1 : Int) : Option ByteArray := if 0 ≤ a1 ∧ a1 ≤ 1000000 ∧ a0.size ≤ 1000000 then some ⟨(Lib.repeatL a0.data.toList a1.toNat).toArray⟩ else none
theorem strings_Repeat.calls (a0 : ByteArray) (a1 : Int) (r : ByteArray) (w : World) (h : strings_Repeat.f a0 a1 = some r) :
    Calls Tryd.prog 72 #[.string a0, .int .i64 a1] w fun e w' => e = .returned (.string r) ∧ Below w.heap.size w w' := by
  unfold strings_Repeat.f at h
  by_cases c : 0 ≤ a1 ∧ a1 ≤ 1000000 ∧ a0.size ≤ 1000000
  · rw [if_pos c] at h
    obtain ⟨c0, c1, c2⟩ := c
    obtain ⟨u, rfl⟩ := Int.eq_ofNat_of_zero_le c0
    rw [← Option.some.inj h]
    exact Tryd.strings_Repeat a0 u w (by omega) (by have := Nat.mul_le_mul c2 (show u ≤ 1000000 by omega); omega)
  · rw [if_neg c] at h
    cases h

end Go.Proofs.YtbfndlfemhidaaaDoor.P
