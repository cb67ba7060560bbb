-- Written by pext.py, a program of this session, over the kit's print: a function's contract
import Derived.Test.YtgihgmniijhfoaaDoorPx0
import Derived.Test.YtgihgmniijhfoaaDoorPx10
namespace Go.Proofs.YtgihgmniijhfoaaDoor.P
open Go.RowKit Go.Proofs.YtgihgmniijhfoaaDoorW.PrintWords Go.Proofs.YtgihgmniijhfoaaDoorW.PrintLast Go.Proofs.YtgihgmniijhfoaaDoorW.PrintMore
attribute [local go_sem] max2_int min2_int max_two min_two max_three min_three max_four min_four   -- for this text's walks alone
set_option linter.unusedVariables false
set_option linter.unusedSimpArgs false


/-! ### lex_Tokens: function 18 -/
section
open Go.Proofs.YtgihgmniijhfoaaDoor.LexW Go.Proofs.YtgihgmniijhfoaaDoor.Lex
def toS (x : Tok) : S41 := ⟨(x.k : Int), ⟨x.t.toArray⟩, x.n⟩
def strLen : Value → Nat
  | .string s => s.size
  | _ => 0
theorem toList_data (s : ByteArray) : s.toList = s.data.toList := ByteArray.toList_eq s
theorem nonempty_of (s : ByteArray) (h : 0 < s.size) : (s.toList != ([] : List UInt8)) = true ∧ s.toList.isEmpty = false := by
  have : s.data.toList ≠ [] := fun e => by have := size_data s; rw [e] at this; simp at this; omega
  rw [toList_data]
  exact ⟨bne_iff_ne.2 this, by cases h : s.data.toList <;> simp_all⟩
theorem empty_of (s : ByteArray) (h : ¬ 0 < s.size) : (s.toList != ([] : List UInt8)) = false ∧ s.toList.isEmpty = true := by
  have : s.data.toList = [] := List.eq_nil_of_length_eq_zero (by have := size_data s; omega)
  rw [toList_data, this]
  exact ⟨rfl, rfl⟩
theorem infoT : (Tryd.prog.info? 41).map (fun i => (i.zero, i.size, i.bytes)) = some (some (.agg #[.int .u8 0, .string ⟨#[]⟩, .int .i64 0]), 3, 32) := by kernel_rfl
theorem r_ok {W : World} {base g : Nat} {v : Value} {xs : List S41} (h : Kd.R k41 41 W base (fun _ => True) v xs) (hk : ∀ k, v.ownBlock = some k → k ≠ g) : Kd.R k41 41 W base (fun k => k ≠ g) v xs :=
  Kd.R_mono (Kd.R_far1 h rfl (g := g) (fun e => hk g e.symm rfl)) (fun _ h => h.2)
set_option maxHeartbeats 4000000 in
set_option maxRecDepth 100000 in
theorem tokens_calls (s : ByteArray) (hs : s.size ≤ 1000000000) (w : World) (hE : LexE w) : Calls Tryd.prog 18 #[.string s] w fun e w' =>
    ∃ v0_ : Value, e = .returned (.tuple #[v0_, .int .i64 ((tokensL s.data.toList).2 : Nat)]) ∧ Kd.R k41 41 w' w.heap.size (fun _ => True) v0_ ((tokensL s.data.toList).1.map toS) ∧ Below w.heap.size w w' := by
  have HE := Aside0.mk hE
  clear hE
  have hsd := size_data s
  obtain ⟨res, hres⟩ : ∃ r, r = tokensL s.data.toList := ⟨_, rfl⟩
  rw [← hres]
  by_cases hbig : 256 < s.size
  · have d1 : decide ((256 : Int) < (s.size : Int)) = true := decide_eq_true (by omega)
    have hr : res = ([], 3) := by rw [hres]; unfold tokensL; exact if_pos (by omega)
    subst hr
    clear hres hbig
    go_enter Tryd.func18, Tryd.ntmps18
    go_wp2
    go_step3
    go_wp2
    rw [Exit.noGoto_ret]
    go_ret2
    exact ⟨_, rfl, Kd.R_nil _ _ _ _ _, Below.refl _ _⟩
  have d1 : decide ((256 : Int) < (s.size : Int)) = false := decide_eq_false (by omega)
  have hr : toksL s.size s.data.toList [] = res := by rw [hres]; unfold tokensL; rw [if_neg (by omega), hsd]
  have RES := Aside0.mk hr
  clear hr hres
  go_enter Tryd.func18, Tryd.ntmps18
  go_wp2
  go_step3
  go_wp2
  go_step3
  go_wp2
  clear d1
  go_loopw [0, 4] (fun v0 v4 wx => ∃ (t : ByteArray) (out : List Tok), v0 = .string t ∧ Aside0 (t.size ≤ 256 ∧ toksL t.size t.data.toList out = res) ∧ Aside0 (Kd.R k41 41 wx w.heap.size (fun _ => True) v4 (out.map toS)) ∧ Aside0 (out.length ≤ 64) ∧ Aside0 (Below w.heap.size w wx)) (fun v0 _ _ => strLen v0)
  case atStart => exact ⟨s, [], rfl, ⟨by omega, RES.out⟩, ⟨Kd.R_nil _ _ _ _ _⟩, ⟨by simp⟩, ⟨Below.refl _ _⟩⟩
  case round =>
    clear RES hsd hbig hs
    obtain ⟨t, out, rfl, HK, HR, HO, HB⟩ := hrel
    by_cases h0 : 0 < t.size
    · obtain ⟨n1, n2⟩ := nonempty_of t h0
      obtain ⟨A4, q4, rfl⟩ := Kd.R_slice HR.out
      have HR0 := HR.out
      clear HR
      generalize hm : (out.map toS).length = m at *
      have HR := Aside0.mk HR0
      have HM := Aside0.mk (show m = out.length by rw [← hm]; exact List.length_map ..)
      clear hm HR0
      have hlen : out.length ≤ 64 := HO.out
      have hq := HK.out.2
      have hl : t.data.toList = t[0] :: t.data.toList.drop 1 := by rw [← drop_at t 0 h0]; rfl
      have p1 : (1 : Int) ≤ (t.size : Int) := by omega
      have p0 : (0 : Int) < (t.size : Int) := by omega
      obtain ⟨N, hN⟩ : ∃ N, t.size = N + 1 := ⟨t.size - 1, by omega⟩
      rw [hN] at hq
      rw [hl, toksL] at hq
      by_cases h32 : t[0] = 32 ∨ t[0] = 9
      · rw [if_pos h32] at hq
        have he : (t.extract 1 t.size).data.toList = t.data.toList.drop 1 := by rw [extract_list, List.take_of_length_le (by rw [size_data]; exact Nat.le_refl _)]
        have hz : (t.extract 1 t.size).size = N := by rw [← size_data, he, List.length_drop, size_data]; omega
        have HQ := Aside0.mk (show (t.extract 1 t.size).size ≤ 256 ∧ toksL (t.extract 1 t.size).size (t.extract 1 t.size).data.toList out = res from ⟨by have := HK.out.1; omega, by rw [hz, he]; exact hq⟩)
        have HZ := Aside0.mk (show (t.extract 1 t.size).size < t.size by omega)
        clear hq he hz hl hN
        by_cases h9 : t[0] = 32
        · have e1 := u8_is h9 (n := 32) rfl
          clear h32 h9
          go_wp2
          go_roundw
          case rel => exact ⟨t.extract 1 t.size, out, rfl, HQ, HR, HO, HB⟩
          case measure => exact HZ.out
        · have e1 := u8_not h9 (n := 32) rfl
          have e2 := u8_is (h32.resolve_left h9) (n := 9) rfl
          clear h32 h9
          go_wp2
          go_roundw
          case rel => exact ⟨t.extract 1 t.size, out, rfl, HQ, HR, HO, HB⟩
          case measure => exact HZ.out
      rw [if_neg h32] at hq
      have e1 := u8_not (fun h => h32 (.inl h)) (c := t[0]) (d := 32) (n := 32) rfl
      have e2 := u8_not (fun h => h32 (.inr h)) (c := t[0]) (d := 9) (n := 9) rfl
      by_cases h35 : t[0] = 35
      · have e3 := u8_is h35 (n := 35) rfl
        rw [if_pos h35] at hq
        have HQ := Aside0.mk hq
        clear hq h32 h35 hl hN
        go_wp2
        rw [Exit.noGoto_ret]
        go_ret2
        exact ⟨_, by rw [← HQ.out]; rfl, by rw [← HQ.out]; exact HR.out, HB.out⟩
      rw [if_neg h35, ← hl] at hq
      have e3 := u8_not h35 (n := 35) rfl
      have cN := fun w hE => next_calls t (by have := HK.out.1; omega) h0 w hE
      have hnl := next_le t.data.toList
      rw [size_data] at hnl
      generalize nextL t.data.toList = u at cN hq hnl
      obtain ⟨x, n⟩ := u
      simp only [tokV] at cN hq hnl
      clear h32 h35 hl
      by_cases hn0 : n = 0
      · have f0 : ((n : Int) == 0) = true := beq_iff_eq.2 (by omega)
        rw [if_pos hn0] at hq
        have HQ := Aside0.mk hq
        clear hq hN hn0 hnl
        go_wp2_with (go_at_call 35; refine (cN _ (HE.out.below HB.out)).mono ?_; rintro e w1 ⟨rfl, hb⟩; have HB2 := Aside0.mk (below_step HB.out hb); clear hb)
        go_wp2_with (first | (go_at_call 35; refine (cN _ (HE.out.below HB.out)).mono ?_; rintro e w1 ⟨rfl, hb⟩; have HB2 := Aside0.mk (below_step HB.out hb); have HR2 := Aside0.mk (Kd.R_below HR.out hb); clear hb) | ((with_reducible refine gate_dst (N := 5) rfl ?_); refine box_event ?hg (N := 5) ?hd (cs := #[.int .u8 0, .string (⟨#[]⟩ : ByteArray), .int .i64 0]) (t := 41) ?hr ?_; (case hd => rfl); (case hg => rfl); (case hr => first | (go_simp; done) | (go_simp; rfl)); intro g hg w2 hbox hb; have HB3 : Aside0 (Below w.heap.size w w2) := ⟨below_step HB2.out hb⟩; have BK := Aside0.mk hbox; have GE : Aside0 (w.heap.size ≤ g) := ⟨by rw [hg]; exact below_size HB2.out⟩; have HR3 := Aside0.mk (Kd.R_below HR2.out hb); have NG : Aside0 (∀ k, (Value.slice A4 m q4).ownBlock = some k → k ≠ g) := ⟨fun k hk => by rw [hg]; exact Nat.ne_of_lt (Kd.R_lt HR2.out k hk)⟩; obtain ⟨c0_, c1_, c2_, f0_, f1_, f2_⟩ := box3 BK.out; clear hb hbox hg))
        rw [Exit.noGoto_ret]
        go_ret2
        exact ⟨_, by rw [← HQ.out]; rfl, by rw [← HQ.out]; exact Kd.R_nil _ _ _ _ _, by first | exact below_set (below_set (below_set HB3.out GE.out) GE.out) GE.out | exact below_alloc HB2.out _⟩
      have f0 : ((n : Int) == 0) = false := beq_eq_false_iff_ne.2 (by omega)
      rw [if_neg hn0] at hq
      by_cases h64 : out.length = 64
      · have g0 : ((m : Int) == 64) = true := beq_iff_eq.2 (by rw [HM.out]; omega)
        rw [if_pos h64] at hq
        have HQ := Aside0.mk hq
        clear hq hN hn0 hnl h64 hlen
        go_wp2_with (first | (go_at_call 35; refine (cN _ (HE.out.below HB.out)).mono ?_; rintro e w1 ⟨rfl, hb⟩; have HB2 := Aside0.mk (below_step HB.out hb); have HR2 := Aside0.mk (Kd.R_below HR.out hb); clear hb) | ((with_reducible refine gate_dst (N := 5) rfl ?_); refine box_event ?hg (N := 5) ?hd (cs := #[.int .u8 0, .string (⟨#[]⟩ : ByteArray), .int .i64 0]) (t := 41) ?hr ?_; (case hd => rfl); (case hg => rfl); (case hr => first | (go_simp; done) | (go_simp; rfl)); intro g hg w2 hbox hb; have HB3 : Aside0 (Below w.heap.size w w2) := ⟨below_step HB2.out hb⟩; have BK := Aside0.mk hbox; have GE : Aside0 (w.heap.size ≤ g) := ⟨by rw [hg]; exact below_size HB2.out⟩; have HR3 := Aside0.mk (Kd.R_below HR2.out hb); have NG : Aside0 (∀ k, (Value.slice A4 m q4).ownBlock = some k → k ≠ g) := ⟨fun k hk => by rw [hg]; exact Nat.ne_of_lt (Kd.R_lt HR2.out k hk)⟩; obtain ⟨c0_, c1_, c2_, f0_, f1_, f2_⟩ := box3 BK.out; clear hb hbox hg))
        rw [Exit.noGoto_ret]
        go_ret2
        exact ⟨_, by rw [← HQ.out]; rfl, by rw [← HQ.out]; exact Kd.R_nil _ _ _ _ _, by first | exact below_set (below_set (below_set HB3.out GE.out) GE.out) GE.out | exact below_alloc HB2.out _⟩
      have g0 : ((m : Int) == 64) = false := beq_eq_false_iff_ne.2 (by rw [HM.out]; omega)
      rw [if_neg h64] at hq
      have HQ := Aside0.mk hq
      have HL := Aside0.mk (show out.length ≤ 63 by omega)
      have nle : (n : Int) ≤ (t.size : Int) := by omega
      have HN := Aside0.mk hN
      have H0 := Aside0.mk hn0
      clear hq hN hn0 h64 hlen
      go_wp2_with (first | (go_at_call 35; refine (cN _ (HE.out.below HB.out)).mono ?_; rintro e w1 ⟨rfl, hb⟩; have HB2 := Aside0.mk (below_step HB.out hb); have HR2 := Aside0.mk (Kd.R_below HR.out hb); clear hb) | ((with_reducible refine gate_dst (N := 5) rfl ?_); refine box_event ?hg (N := 5) ?hd (cs := #[.int .u8 0, .string (⟨#[]⟩ : ByteArray), .int .i64 0]) (t := 41) ?hr ?_; (case hd => rfl); (case hg => rfl); (case hr => first | (go_simp; done) | (go_simp; rfl)); intro g hg w2 hbox hb; have HB3 : Aside0 (Below w.heap.size w w2) := ⟨below_step HB2.out hb⟩; have BK := Aside0.mk hbox; have GE : Aside0 (w.heap.size ≤ g) := ⟨by rw [hg]; exact below_size HB2.out⟩; have HR3 := Aside0.mk (Kd.R_below HR2.out hb); have NG : Aside0 (∀ k, (Value.slice A4 m q4).ownBlock = some k → k ≠ g) := ⟨fun k hk => by rw [hg]; exact Nat.ne_of_lt (Kd.R_lt HR2.out k hk)⟩; obtain ⟨c0_, c1_, c2_, f0_, f1_, f2_⟩ := box3 BK.out; clear hb hbox hg))
      have BK4 := Aside0.mk (blk_put (cs' := #[.int .u8 (x.k : Int), .string (⟨x.t.toArray⟩ : ByteArray), .int .i64 x.n]) (blk_put (cs' := #[.int .u8 (x.k : Int), .string (⟨x.t.toArray⟩ : ByteArray), .int .i64 0]) (blk_put (cs' := #[.int .u8 (x.k : Int), .string (⟨#[]⟩ : ByteArray), .int .i64 0]) BK.out 0 (.int .u8 (x.k : Int)) rfl) 1 (.string (⟨x.t.toArray⟩ : ByteArray)) rfl) 2 (.int .i64 x.n) rfl)
      have HB4 := Aside0.mk (below_set (j := 2) (v := .int .i64 x.n) (below_set (j := 1) (v := .string (⟨x.t.toArray⟩ : ByteArray)) (below_set (j := 0) (v := .int .u8 (x.k : Int)) HB3.out GE.out) GE.out) GE.out)
      have HR4 := Aside0.mk (Kd.R_far (p := ⟨g, 2, none⟩) (Kd.R_far (p := ⟨g, 1, none⟩) (Kd.R_far (p := ⟨g, 0, none⟩) (r_ok HR3.out NG.out) (fun _ h => h) (.int .u8 (x.k : Int))) (fun _ h => h) (.string (⟨x.t.toArray⟩ : ByteArray))) (fun _ h => h) (.int .i64 x.n))
      obtain ⟨w3, hw3⟩ : ∃ W, W = ((w2.setCell ⟨g, 0, none⟩ (.int .u8 (x.k : Int))).setCell ⟨g, 1, none⟩ (.string (⟨x.t.toArray⟩ : ByteArray))).setCell ⟨g, 2, none⟩ (.int .i64 x.n) := ⟨_, rfl⟩
      rw [← hw3] at BK4 HB4 HR4 ⊢
      clear hw3 BK HB3 HR3 c0_ c1_ c2_ f0_ f1_ f2_ HR2 HB2 HR HB
      obtain ⟨c0_, c1_, c2_, f0_, f1_, f2_⟩ := box3 BK4.out
      go_region_law (first | (refine Kd.R_append_step k41 (w0 := w) (W := w3.drew) w.heap.size (by rfl) (.tmp 31) (.tmp 33) 24 41 (.agg #[.int .u8 0, .string ⟨#[]⟩, .int .i64 0]) 32 rfl Tryd.underlying24 infoT rfl (by decide) (by omega) (.slice A4 m q4) (out.map toS) (toS x) [.int .u8 (x.k : Int), .string ⟨x.t.toArray⟩, .int .i64 x.n] (fun k => k ≠ g) (fun _ => False) rfl rfl ?aP (fun _ hk => hk.elim) ?aF ?aO ?aB ?aS ?aL ?_; (case aP => exact k41_mkM _ _ _ (toS x)); (case aF => exact fun k hk => by have := blk_lt BK4.out; simp at hk; omega); (case aO => exact Kd.R_drewN HR4.out 1); (case aB => exact pw_below_drewN HB4.out 1); (case aS => exact (show w.heap.size ≤ w3.heap.size from below_size HB4.out)); (case aL => have := HL.out; have := HM.out; rw [List.length_map]; omega); intro v7 w7 ho hb7 hg7 _; have HR7 := Aside0.mk ho; have HB7 := Aside0.mk hb7; clear ho hb7 hg7))
      all_goals
        simp only [Act.put, List.getElem_toArray, List.getElem_cons_succ, List.getElem_cons_zero, List.setIfInBounds_toArray, List.set_cons_zero, List.set_cons_succ]
        go_wp2
        go_roundw
        case rel =>
          have he : (t.extract n t.size).data.toList = t.data.toList.drop n := by rw [extract_list, List.take_of_length_le (by rw [size_data]; exact Nat.le_refl _)]
          have hz : (t.extract n t.size).size = t.size - n := by rw [← size_data, he, List.length_drop, size_data]
          have hN := HN.out
          refine ⟨t.extract n t.size, out ++ [x], rfl, ⟨by have := HK.out.1; omega, ?_⟩, ⟨by rw [List.map_append]; exact Kd.R_mono HR7.out (fun _ _ => trivial)⟩, ⟨by rw [List.length_append]; have := HL.out; simp; omega⟩, HB7⟩
          rw [he, hz]
          rw [← HQ.out]
          exact toks_fuel _ _ _ _ (by rw [List.length_drop, size_data]; exact Nat.le_refl _) (by rw [List.length_drop, size_data]; have := H0.out; omega)
        case measure =>
          have he : (t.extract n t.size).data.toList = t.data.toList.drop n := by rw [extract_list, List.take_of_length_le (by rw [size_data]; exact Nat.le_refl _)]
          have hz : (t.extract n t.size).size = t.size - n := by rw [← size_data, he, List.length_drop, size_data]
          show (t.extract n t.size).size < t.size
          have := H0.out
          omega
    · obtain ⟨n1, n2⟩ := empty_of t h0
      have hq := HK.out.2
      have hz : t.size = 0 := by omega
      rw [hz, toksL] at hq
      have HQ := Aside0.mk hq
      clear hq hz
      go_wp2
      rw [Exit.noGoto_ret]
      go_ret2
      exact ⟨_, by rw [← HQ.out]; rfl, by rw [← HQ.out]; exact HR.out, HB.out⟩
end
def lex_Tokens.f (a0 : ByteArray) : Option (List S41 × Int) := if a0.size ≤ 1000000000 then some ((Lex.tokensL a0.data.toList).1.map toS, (((Lex.tokensL a0.data.toList).2 : Nat) : Int)) else none
theorem lex_Tokens.calls (a0 : ByteArray) (r1 : List S41) (r2 : Int) (w : World) (hE : LexW.LexE w) (h : lex_Tokens.f a0 = some (r1, r2)) :
    Calls Tryd.prog 18 #[.string a0] w fun e w' => ∃ v0_ : Value, e = .returned (.tuple #[v0_, .int .i64 r2]) ∧ Kd.R k41 41 w' w.heap.size (fun _ => True) v0_ r1 ∧ Below w.heap.size w w' := by
  unfold lex_Tokens.f at h
  by_cases c : a0.size ≤ 1000000000
  · rw [if_pos c] at h
    cases h
    exact tokens_calls a0 c w hE
  · rw [if_neg c] at h
    cases h

end Go.Proofs.YtgihgmniijhfoaaDoor.P
