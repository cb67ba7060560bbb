-- Written by pext.py, a program of this session, over the kit's print: a function's contract
import Derived.Test.YtajnkmandhomlaaDoorPx0
import Derived.Test.YtajnkmandhomlaaDoorPx2
namespace Go.Proofs.YtajnkmandhomlaaDoor.P
open Go.RowKit Go.Proofs.YtajnkmandhomlaaDoorW.PrintWords Go.Proofs.YtajnkmandhomlaaDoorW.PrintLast Go.Proofs.YtajnkmandhomlaaDoorW.PrintMore
attribute [local go_sem] max2_int min2_int max_two min_two max_three min_three max_four min_four   -- for this text's walks alone
set_option linter.unusedVariables false
set_option linter.unusedSimpArgs false


/-! ### lex_Tokens: function 16 -/
section
open Go.Proofs.YtajnkmandhomlaaDoor.LexW Go.Proofs.YtajnkmandhomlaaDoor.Lex
def toS (x : Tok) : S23 := ⟨(x.k : Int), ⟨x.t.toArray⟩, x.n⟩
def strLen : Value → Nat
  | .string s => s.size
  | _ => 0
theorem toList_data (s : ByteArray) : s.toList = s.data.toList := ByteArray.toList_eq s
theorem nonempty_of (s : ByteArray) (h : 0 < s.size) : (s.toList != ([] : List UInt8)) = true ∧ s.toList.isEmpty = false := by
  have : s.data.toList ≠ [] := fun e => by have := size_data s; rw [e] at this; simp at this; omega
  rw [toList_data]
  exact ⟨bne_iff_ne.2 this, by cases h : s.data.toList <;> simp_all⟩
theorem empty_of (s : ByteArray) (h : ¬ 0 < s.size) : (s.toList != ([] : List UInt8)) = false ∧ s.toList.isEmpty = true := by
  have : s.data.toList = [] := List.eq_nil_of_length_eq_zero (by have := size_data s; omega)
  rw [toList_data, this]
  exact ⟨rfl, rfl⟩
theorem infoT : (Tryd.prog.info? 23).map (fun i => (i.zero, i.size, i.bytes)) = some (some (.agg #[.int .u8 0, .string ⟨#[]⟩, .int .i64 0]), 3, 32) := by kernel_rfl
theorem r_ok {W : World} {base g : Nat} {v : Value} {xs : List S23} (h : Kd.R k23 23 W base (fun _ => True) v xs) (hk : ∀ k, v.ownBlock = some k → k ≠ g) : Kd.R k23 23 W base (fun k => k ≠ g) v xs :=
  Kd.R_mono (Kd.R_far1 h rfl (g := g) (fun e => hk g e.symm rfl)) (fun _ h => h.2)
set_option maxHeartbeats 4000000 in
set_option maxRecDepth 100000 in
theorem tokens_calls (s : ByteArray) (hs : s.size ≤ 1000000000) (w : World) (hE : LexE w) : Calls Tryd.prog 16 #[.string s] w fun e w' =>
    ∃ v0_ : Value, e = .returned (.tuple #[v0_, .int .i64 ((tokensL s.data.toList).2 : Nat)]) ∧ Kd.R k23 23 w' w.heap.size (fun _ => True) v0_ ((tokensL s.data.toList).1.map toS) ∧ Below w.heap.size w w' := by
  have HE := Aside0.mk hE
  clear hE
  have hsd := size_data s
  obtain ⟨res, hres⟩ : ∃ r, r = tokensL s.data.toList := ⟨_, rfl⟩
  rw [← hres]
  by_cases hbig : 256 < s.size
  · have d1 : decide ((256 : Int) < (s.size : Int)) = true := decide_eq_true (by omega)
    have hr : res = ([], 3) := by rw [hres]; unfold tokensL; exact if_pos (by omega)
    subst hr
    clear hres hbig
    go_enter Tryd.func16, Tryd.ntmps16
    go_wp2
    go_step3
    go_wp2
    rw [Exit.noGoto_ret]
    go_ret2
    exact ⟨_, rfl, Kd.R_nil _ _ _ _ _, Below.refl _ _⟩
  have d1 : decide ((256 : Int) < (s.size : Int)) = false := decide_eq_false (by omega)
  have hr : toksL s.size s.data.toList [] = res := by rw [hres]; unfold tokensL; rw [if_neg (by omega), hsd]
  have RES := Aside0.mk hr
  clear hr hres
  go_enter Tryd.func16, Tryd.ntmps16
  go_wp2
  go_step3
  go_wp2
  go_step3
  go_wp2
  clear d1
  go_loopw [0, 4] (fun v0 v4 wx => ∃ (t : ByteArray) (out : List Tok), v0 = .string t ∧ Aside0 (t.size ≤ 256 ∧ toksL t.size t.data.toList out = res) ∧ Aside0 (Kd.R k23 23 wx w.heap.size (fun _ => True) v4 (out.map toS)) ∧ Aside0 (out.length ≤ 64) ∧ Aside0 (Below w.heap.size w wx)) (fun v0 _ _ => strLen v0)
  case atStart => exact ⟨s, [], rfl, ⟨by omega, RES.out⟩, ⟨Kd.R_nil _ _ _ _ _⟩, ⟨by simp⟩, ⟨Below.refl _ _⟩⟩
  case round =>
    clear RES hsd hbig hs
    obtain ⟨t, out, rfl, HK, HR, HO, HB⟩ := hrel
    by_cases h0 : 0 < t.size
    · obtain ⟨n1, n2⟩ := nonempty_of t h0
      obtain ⟨A4, q4, rfl⟩ := Kd.R_slice HR.out
      have HR0 := HR.out
      clear HR
      generalize hm : (out.map toS).length = m at *
      have HR := Aside0.mk HR0
      have HM := Aside0.mk (show m = out.length by rw [← hm]; exact List.length_map ..)
      clear hm HR0
      have hlen : out.length ≤ 64 := HO.out
      have hq := HK.out.2
      have hl : t.data.toList = t[0] :: t.data.toList.drop 1 := by rw [← drop_at t 0 h0]; rfl
      have p1 : (1 : Int) ≤ (t.size : Int) := by omega
      have p0 : (0 : Int) < (t.size : Int) := by omega
      obtain ⟨N, hN⟩ : ∃ N, t.size = N + 1 := ⟨t.size - 1, by omega⟩
      rw [hN] at hq
      rw [hl, toksL] at hq
      by_cases h32 : t[0] = 32 ∨ t[0] = 9
      · rw [if_pos h32] at hq
        have he : (t.extract 1 t.size).data.toList = t.data.toList.drop 1 := by rw [extract_list, List.take_of_length_le (by rw [size_data]; exact Nat.le_refl _)]
        have hz : (t.extract 1 t.size).size = N := by rw [← size_data, he, List.length_drop, size_data]; omega
        have HQ := Aside0.mk (show (t.extract 1 t.size).size ≤ 256 ∧ toksL (t.extract 1 t.size).size (t.extract 1 t.size).data.toList out = res from ⟨by have := HK.out.1; omega, by rw [hz, he]; exact hq⟩)
        have HZ := Aside0.mk (show (t.extract 1 t.size).size < t.size by omega)
        clear hq he hz hl hN
        by_cases h9 : t[0] = 32
        · have e1 := u8_is h9 (n := 32) rfl
          clear h32 h9
          go_wp2
          go_roundw
          case rel => exact ⟨t.extract 1 t.size, out, rfl, HQ, HR, HO, HB⟩
          case measure => exact HZ.out
        · have e1 := u8_not h9 (n := 32) rfl
          have e2 := u8_is (h32.resolve_left h9) (n := 9) rfl
          clear h32 h9
          go_wp2
          go_roundw
          case rel => exact ⟨t.extract 1 t.size, out, rfl, HQ, HR, HO, HB⟩
          case measure => exact HZ.out
      rw [if_neg h32] at hq
      have e1 := u8_not (fun h => h32 (.inl h)) (c := t[0]) (d := 32) (n := 32) rfl
      have e2 := u8_not (fun h => h32 (.inr h)) (c := t[0]) (d := 9) (n := 9) rfl
      by_cases h35 : t[0] = 35
      · have e3 := u8_is h35 (n := 35) rfl
        rw [if_pos h35] at hq
        have HQ := Aside0.mk hq
        clear hq h32 h35 hl hN
        go_wp2
        rw [Exit.noGoto_ret]
        go_ret2
        exact ⟨_, by rw [← HQ.out]; rfl, by rw [← HQ.out]; exact HR.out, HB.out⟩
      rw [if_neg h35, ← hl] at hq
      have e3 := u8_not h35 (n := 35) rfl
      have cN := fun w hE => next_calls t (by have := HK.out.1; omega) h0 w hE
      have hnl := next_le t.data.toList
      rw [size_data] at hnl
      generalize nextL t.data.toList = u at cN hq hnl
      obtain ⟨x, n⟩ := u
      simp only [tokV] at cN hq hnl
      clear h32 h35 hl
      by_cases hn0 : n = 0
      · have f0 : ((n : Int) == 0) = true := beq_iff_eq.2 (by omega)
        rw [if_pos hn0] at hq
        have HQ := Aside0.mk hq
        clear hq hN hn0 hnl
        go_wp2_with (go_at_call 25; refine (cN _ (HE.out.below HB.out)).mono ?_; rintro e w1 ⟨rfl, hb⟩; have HB2 := Aside0.mk (below_step HB.out hb); clear hb)
        go_wp2_with (first | (go_at_call 25; refine (cN _ (HE.out.below HB.out)).mono ?_; rintro e w1 ⟨rfl, hb⟩; have HB2 := Aside0.mk (below_step HB.out hb); have HR2 := Aside0.mk (Kd.R_below HR.out hb); clear hb) | ((with_reducible refine gate_dst (N := 5) rfl ?_); refine box_event ?hg (N := 5) ?hd (cs := #[.int .u8 0, .string (⟨#[]⟩ : ByteArray), .int .i64 0]) (t := 23) ?hr ?_; (case hd => rfl); (case hg => rfl); (case hr => first | (go_simp; done) | (go_simp; rfl)); intro g hg w2 hbox hb; have HB3 : Aside0 (Below w.heap.size w w2) := ⟨below_step HB2.out hb⟩; have BK := Aside0.mk hbox; have GE : Aside0 (w.heap.size ≤ g) := ⟨by rw [hg]; exact below_size HB2.out⟩; have HR3 := Aside0.mk (Kd.R_below HR2.out hb); have NG : Aside0 (∀ k, (Value.slice A4 m q4).ownBlock = some k → k ≠ g) := ⟨fun k hk => by rw [hg]; exact Nat.ne_of_lt (Kd.R_lt HR2.out k hk)⟩; obtain ⟨c0_, c1_, c2_, f0_, f1_, f2_⟩ := box3 BK.out; clear hb hbox hg))
        rw [Exit.noGoto_ret]
        go_ret2
        exact ⟨_, by rw [← HQ.out]; rfl, by rw [← HQ.out]; exact Kd.R_nil _ _ _ _ _, by first | exact below_set (below_set (below_set HB3.out GE.out) GE.out) GE.out | exact below_alloc HB2.out _⟩
      have f0 : ((n : Int) == 0) = false := beq_eq_false_iff_ne.2 (by omega)
      rw [if_neg hn0] at hq
      by_cases h64 : out.length = 64
      · have g0 : ((m : Int) == 64) = true := beq_iff_eq.2 (by rw [HM.out]; omega)
        rw [if_pos h64] at hq
        have HQ := Aside0.mk hq
        clear hq hN hn0 hnl h64 hlen
        go_wp2_with (first | (go_at_call 25; refine (cN _ (HE.out.below HB.out)).mono ?_; rintro e w1 ⟨rfl, hb⟩; have HB2 := Aside0.mk (below_step HB.out hb); have HR2 := Aside0.mk (Kd.R_below HR.out hb); clear hb) | ((with_reducible refine gate_dst (N := 5) rfl ?_); refine box_event ?hg (N := 5) ?hd (cs := #[.int .u8 0, .string (⟨#[]⟩ : ByteArray), .int .i64 0]) (t := 23) ?hr ?_; (case hd => rfl); (case hg => rfl); (case hr => first | (go_simp; done) | (go_simp; rfl)); intro g hg w2 hbox hb; have HB3 : Aside0 (Below w.heap.size w w2) := ⟨below_step HB2.out hb⟩; have BK := Aside0.mk hbox; have GE : Aside0 (w.heap.size ≤ g) := ⟨by rw [hg]; exact below_size HB2.out⟩; have HR3 := Aside0.mk (Kd.R_below HR2.out hb); have NG : Aside0 (∀ k, (Value.slice A4 m q4).ownBlock = some k → k ≠ g) := ⟨fun k hk => by rw [hg]; exact Nat.ne_of_lt (Kd.R_lt HR2.out k hk)⟩; obtain ⟨c0_, c1_, c2_, f0_, f1_, f2_⟩ := box3 BK.out; clear hb hbox hg))
        rw [Exit.noGoto_ret]
        go_ret2
        exact ⟨_, by rw [← HQ.out]; rfl, by rw [← HQ.out]; exact Kd.R_nil _ _ _ _ _, by first | exact below_set (below_set (below_set HB3.out GE.out) GE.out) GE.out | exact below_alloc HB2.out _⟩
      have g0 : ((m : Int) == 64) = false := beq_eq_false_iff_ne.2 (by rw [HM.out]; omega)
      rw [if_neg h64] at hq
      have HQ := Aside0.mk hq
      have HL := Aside0.mk (show out.length ≤ 63 by omega)
      have nle : (n : Int) ≤ (t.size : Int) := by omega
      have HN := Aside0.mk hN
      have H0 := Aside0.mk hn0
      clear hq hN hn0 h64 hlen
      go_wp2_with (first | (go_at_call 25; refine (cN _ (HE.out.below HB.out)).mono ?_; rintro e w1 ⟨rfl, hb⟩; have HB2 := Aside0.mk (below_step HB.out hb); have HR2 := Aside0.mk (Kd.R_below HR.out hb); clear hb) | ((with_reducible refine gate_dst (N := 5) rfl ?_); refine box_event ?hg (N := 5) ?hd (cs := #[.int .u8 0, .string (⟨#[]⟩ : ByteArray), .int .i64 0]) (t := 23) ?hr ?_; (case hd => rfl); (case hg => rfl); (case hr => first | (go_simp; done) | (go_simp; rfl)); intro g hg w2 hbox hb; have HB3 : Aside0 (Below w.heap.size w w2) := ⟨below_step HB2.out hb⟩; have BK := Aside0.mk hbox; have GE : Aside0 (w.heap.size ≤ g) := ⟨by rw [hg]; exact below_size HB2.out⟩; have HR3 := Aside0.mk (Kd.R_below HR2.out hb); have NG : Aside0 (∀ k, (Value.slice A4 m q4).ownBlock = some k → k ≠ g) := ⟨fun k hk => by rw [hg]; exact Nat.ne_of_lt (Kd.R_lt HR2.out k hk)⟩; obtain ⟨c0_, c1_, c2_, f0_, f1_, f2_⟩ := box3 BK.out; clear hb hbox hg))
      have BK4 := Aside0.mk (blk_put (cs' := #[.int .u8 (x.k : Int), .string (⟨x.t.toArray⟩ : ByteArray), .int .i64 x.n]) (blk_put (cs' := #[.int .u8 (x.k : Int), .string (⟨x.t.toArray⟩ : ByteArray), .int .i64 0]) (blk_put (cs' := #[.int .u8 (x.k : Int), .string (⟨#[]⟩ : ByteArray), .int .i64 0]) BK.out 0 (.int .u8 (x.k : Int)) rfl) 1 (.string (⟨x.t.toArray⟩ : ByteArray)) rfl) 2 (.int .i64 x.n) rfl)
      have HB4 := Aside0.mk (below_set (j := 2) (v := .int .i64 x.n) (below_set (j := 1) (v := .string (⟨x.t.toArray⟩ : ByteArray)) (below_set (j := 0) (v := .int .u8 (x.k : Int)) HB3.out GE.out) GE.out) GE.out)
      have HR4 := Aside0.mk (Kd.R_far (p := ⟨g, 2, none⟩) (Kd.R_far (p := ⟨g, 1, none⟩) (Kd.R_far (p := ⟨g, 0, none⟩) (r_ok HR3.out NG.out) (fun _ h => h) (.int .u8 (x.k : Int))) (fun _ h => h) (.string (⟨x.t.toArray⟩ : ByteArray))) (fun _ h => h) (.int .i64 x.n))
      obtain ⟨w3, hw3⟩ : ∃ W, W = ((w2.setCell ⟨g, 0, none⟩ (.int .u8 (x.k : Int))).setCell ⟨g, 1, none⟩ (.string (⟨x.t.toArray⟩ : ByteArray))).setCell ⟨g, 2, none⟩ (.int .i64 x.n) := ⟨_, rfl⟩
      rw [← hw3] at BK4 HB4 HR4 ⊢
      clear hw3 BK HB3 HR3 c0_ c1_ c2_ f0_ f1_ f2_ HR2 HB2 HR HB
      obtain ⟨c0_, c1_, c2_, f0_, f1_, f2_⟩ := box3 BK4.out
      go_region_law (first | (refine Kd.R_append_step k23 (w0 := w) (W := w3.drew) w.heap.size (by rfl) (.tmp 31) (.tmp 33) 24 23 (.agg #[.int .u8 0, .string ⟨#[]⟩, .int .i64 0]) 32 rfl Tryd.underlying24 infoT rfl (by decide) (by omega) (.slice A4 m q4) (out.map toS) (toS x) [.int .u8 (x.k : Int), .string ⟨x.t.toArray⟩, .int .i64 x.n] (fun k => k ≠ g) (fun _ => False) rfl rfl ?aP (fun _ hk => hk.elim) ?aF ?aO ?aB ?aS ?aL ?_; (case aP => exact k23_mkM _ _ _ (toS x)); (case aF => exact fun k hk => by have := blk_lt BK4.out; simp at hk; omega); (case aO => exact Kd.R_drewN HR4.out 1); (case aB => exact pw_below_drewN HB4.out 1); (case aS => exact (show w.heap.size ≤ w3.heap.size from below_size HB4.out)); (case aL => have := HL.out; have := HM.out; rw [List.length_map]; omega); intro v7 w7 ho hb7 hg7 _; have HR7 := Aside0.mk ho; have HB7 := Aside0.mk hb7; clear ho hb7 hg7))
      all_goals
        simp only [Act.put, List.getElem_toArray, List.getElem_cons_succ, List.getElem_cons_zero, List.setIfInBounds_toArray, List.set_cons_zero, List.set_cons_succ]
        go_wp2
        go_roundw
        case rel =>
          have he : (t.extract n t.size).data.toList = t.data.toList.drop n := by rw [extract_list, List.take_of_length_le (by rw [size_data]; exact Nat.le_refl _)]
          have hz : (t.extract n t.size).size = t.size - n := by rw [← size_data, he, List.length_drop, size_data]
          have hN := HN.out
          refine ⟨t.extract n t.size, out ++ [x], rfl, ⟨by have := HK.out.1; omega, ?_⟩, ⟨by rw [List.map_append]; exact Kd.R_mono HR7.out (fun _ _ => trivial)⟩, ⟨by rw [List.length_append]; have := HL.out; simp; omega⟩, HB7⟩
          rw [he, hz]
          rw [← HQ.out]
          exact toks_fuel _ _ _ _ (by rw [List.length_drop, size_data]; exact Nat.le_refl _) (by rw [List.length_drop, size_data]; have := H0.out; omega)
        case measure =>
          have he : (t.extract n t.size).data.toList = t.data.toList.drop n := by rw [extract_list, List.take_of_length_le (by rw [size_data]; exact Nat.le_refl _)]
          have hz : (t.extract n t.size).size = t.size - n := by rw [← size_data, he, List.length_drop, size_data]
          show (t.extract n t.size).size < t.size
          have := H0.out
          omega
    · obtain ⟨n1, n2⟩ := empty_of t h0
      have hq := HK.out.2
      have hz : t.size = 0 := by omega
      rw [hz, toksL] at hq
      have HQ := Aside0.mk hq
      clear hq hz
      go_wp2
      rw [Exit.noGoto_ret]
      go_ret2
      exact ⟨_, by rw [← HQ.out]; rfl, by rw [← HQ.out]; exact HR.out, HB.out⟩
end
def lex_Tokens.f (a0 : ByteArray) : Option (List S23 × Int) := if a0.size ≤ 1000000000 then some ((Lex.tokensL a0.data.toList).1.map toS, (((Lex.tokensL a0.data.toList).2 : Nat) : Int)) else none
theorem lex_Tokens.calls (a0 : ByteArray) (r1 : List S23) (r2 : Int) (w : World) (hE : LexW.LexE w) (h : lex_Tokens.f a0 = some (r1, r2)) :
    Calls Tryd.prog 16 #[.string a0] w fun e w' => ∃ v0_ : Value, e = .returned (.tuple #[v0_, .int .i64 r2]) ∧ Kd.R k23 23 w' w.heap.size (fun _ => True) v0_ r1 ∧ Below w.heap.size w w' := by
  unfold lex_Tokens.f at h
  by_cases c : a0.size ≤ 1000000000
  · rw [if_pos c] at h
    cases h
    exact tokens_calls a0 c w hE
  · rw [if_neg c] at h
    cases h

/-! ### quoinlaw15_is: function 17 -/
def quoinlaw15_is.f (k : Nat) (a0 : ByteArray) (l1 : List (S23)) : Option (Bool) := (lex_Tokens.f a0).bind fun bt180 => (if bt180.2 = 0 then ((quoinref15_Same.f k bt180.1 l1).bind fun t184 => (some t184)) else (some false))
theorem quoinlaw15_is.mono : ∀ a0 a1 k, LeO (quoinlaw15_is.f k a0 a1) (quoinlaw15_is.f (k + 1) a0 a1) := by
 intro a0 a1 k
 unfold quoinlaw15_is.f
 repeat' first
   | (with_reducible exact quoinref15_Same.mono _ _ _)
   | (with_reducible exact LeO.refl _)
   | (with_reducible exact LeO.none _)
   | (with_reducible refine LeO.ite ?_ ?_)
   | (with_reducible refine LeO.bind ?_ (fun _ => ?_))
   | exact quoinref15_Same.mono _ _ _
   | exact LeO.none _
   | refine LeO.ite ?_ ?_
   | refine LeO.bind ?_ (fun _ => ?_)
set_option maxHeartbeats 8000000 in
set_option maxRecDepth 100000 in
theorem quoinlaw15_is.calls (k : Nat) (a0 : ByteArray) (A1 : Option Addr) (c1 : Nat) (l1 : List (S23)) (r : Bool) (w : World) (hr1 : Kd.C k23 w A1 l1.length l1) (hc1 : l1.length ≤ c1) (hE : LexW.LexE w) (h : quoinlaw15_is.f k a0 l1 = some r) :
  Calls Tryd.prog 17 #[.string a0, .slice A1 l1.length c1] w fun e w' => e = .returned (.bool r) ∧ Below w.heap.size w w' := by
 have HR1 := Aside0.mk hr1
 have HC1 := Aside0.mk hc1
 clear hr1 hc1
 have HE_ := Aside0.mk hE
 clear hE
 have HB := Aside0.mk (Below.refl w.heap.size w)
 have H : ((lex_Tokens.f a0).bind fun bt180 => (if bt180.2 = 0 then ((quoinref15_Same.f k bt180.1 l1).bind fun t184 => (some t184)) else (some false))) = some r := h
 clear h
 replace H := Option.bind_eq_some_iff.mp H
 obtain ⟨⟨t180, t181⟩, A30, H⟩ := H
 replace H : (if t181 = 0 then ((quoinref15_Same.f k t180 l1).bind fun t184 => (some t184)) else (some false)) = some r := H
 have A3 := Aside0.mk A30
 clear A30
 by_cases c4 : t181 = 0
 ·
  rw [if_pos c4] at H
  have c4b0 : (t181 == 0) = true := beq_iff_eq.mpr c4
  have c4b1 : (t181 != 0) = false := bne_eq_false_iff_eq.mpr c4
  clear c4
  replace H := Option.bind_eq_some_iff.mp H
  obtain ⟨t184, A50, H⟩ := H
  replace H : (some t184) = some r := H
  have A5 := Aside0.mk A50
  clear A50
  obtain rfl := Option.some.inj H
  go_enter Tryd.func17, Tryd.ntmps17
  go_wp2_with (first | ((with_reducible refine gate_callee (f := 16) rfl ?_); refine goesL_ (some 9) rfl rfl Tryd.func16 (by kernel_rfl) rfl #[.string a0] rfl (by (try simp only [List.map_toArray, List.map_cons, List.map_nil]); first | done | rfl | (simp only [List.length_drop, List.length_take]; rfl)) ?_; (with_reducible refine (lex_Tokens.calls a0 t180 t181 _ ?side1 A3.out).mono ?_); (case side1 => exact HE_.out.below (by repeat (first | (with_reducible first | exact HB.out | apply below_alloc | apply pw_below_drewN | apply below_drew1) | exact HB.out))); rintro e w6 ⟨v182, rfl, ho0, hb⟩; refine ⟨_, rfl, ?_⟩; have n0_ := Aside0.mk (Kd.R_lower ho0 (below_size (by repeat (first | (with_reducible first | exact HB.out | apply below_alloc | apply pw_below_drewN | apply below_drew1) | exact HB.out)))); have n1_ := Aside0.mk (below_step (by repeat (first | (with_reducible first | exact HB.out | apply below_alloc | apply pw_below_drewN | apply below_drew1) | exact HB.out)) hb); clear HB; have HO183 := n0_; have HB := n1_; clear n0_ n1_; (try clear hb); (try clear hb2); (try clear hk); (try clear hi); (try clear ho0); obtain ⟨Ao7, co7, eo7⟩ := Kd.R_slice HO183.out; subst eo7) | (go_at_call 14; (with_reducible refine (quoinref15_Same.calls k _ _ t180 _ _ l1 t184 _ ?side1 ?side2 ?side3 ?side4 A5.out).mono ?_); (case side1 => repeat (first | exact (Kd.R_reads' HO183.out).2.2 | (with_reducible refine Kd.C_alloc ?_ _) | (with_reducible refine Kd.C_drewN ?_ _) | (with_reducible refine Kd.C_drew ?_))); (case side2 => exact (Kd.R_reads' HO183.out).2.1); (case side3 => repeat (first | exact (Kd.C_below HR1.out HB.out) | (with_reducible refine Kd.C_alloc ?_ _) | (with_reducible refine Kd.C_drewN ?_ _) | (with_reducible refine Kd.C_drew ?_))); (case side4 => exact HC1.out); rintro e w' ⟨rfl, ⟨nd, rfl⟩⟩))
  go_ret
  exact ⟨by first | rfl | (simp [errW_none, errW_some] <;> rfl) | (simp [*, errW_none, errW_some] <;> rfl), by repeat (first | (with_reducible first | exact HB.out | apply below_alloc | apply pw_below_drewN | apply below_drew1) | exact HB.out)⟩
 ·
  rw [if_neg c4] at H
  have c4b0 : (t181 == 0) = false := beq_eq_false_iff_ne.mpr c4
  have c4b1 : (t181 != 0) = true := bne_iff_ne.mpr c4
  obtain rfl := Option.some.inj H
  go_enter Tryd.func17, Tryd.ntmps17
  go_wp2_with (first | ((with_reducible refine gate_callee (f := 16) rfl ?_); refine goesL_ (some 9) rfl rfl Tryd.func16 (by kernel_rfl) rfl #[.string a0] rfl (by (try simp only [List.map_toArray, List.map_cons, List.map_nil]); first | done | rfl | (simp only [List.length_drop, List.length_take]; rfl)) ?_; (with_reducible refine (lex_Tokens.calls a0 t180 t181 _ ?side1 A3.out).mono ?_); (case side1 => exact HE_.out.below (by repeat (first | (with_reducible first | exact HB.out | apply below_alloc | apply pw_below_drewN | apply below_drew1) | exact HB.out))); rintro e w8 ⟨v182, rfl, ho0, hb⟩; refine ⟨_, rfl, ?_⟩; have n0_ := Aside0.mk (Kd.R_lower ho0 (below_size (by repeat (first | (with_reducible first | exact HB.out | apply below_alloc | apply pw_below_drewN | apply below_drew1) | exact HB.out)))); have n1_ := Aside0.mk (below_step (by repeat (first | (with_reducible first | exact HB.out | apply below_alloc | apply pw_below_drewN | apply below_drew1) | exact HB.out)) hb); clear HB; have HO183 := n0_; have HB := n1_; clear n0_ n1_; (try clear hb); (try clear hb2); (try clear hk); (try clear hi); (try clear ho0)))
  go_ret
  exact ⟨by first | rfl | (simp [errW_none, errW_some] <;> rfl) | (simp [*, errW_none, errW_some] <;> rfl), by repeat (first | (with_reducible first | exact HB.out | apply below_alloc | apply pw_below_drewN | apply below_drew1) | exact HB.out)⟩

/-! ### quoinlaw15_word: function 18 -/
def quoinlaw15_word.f (a0 : ByteArray) : Option (Int × ByteArray × Int) := some (1, a0, 0)
set_option maxHeartbeats 8000000 in
set_option maxRecDepth 100000 in
theorem quoinlaw15_word.calls (a0 : ByteArray) (r1 : Int) (r2 : ByteArray) (r3 : Int) (w : World) (h : quoinlaw15_word.f a0 = some (r1, r2, r3)) :
  Calls Tryd.prog 18 #[.string a0] w fun e w' => e = .returned (.agg #[.int .u8 r1, .string r2, .int .i64 r3]) ∧ Below w.heap.size w w' := by
 have hu23 := Tryd.underlying23
 have HB := Aside0.mk (Below.refl w.heap.size w)
 have H : (some (1, a0, 0)) = some (r1, r2, r3) := h
 clear h
 simp only [Option.some.injEq, Prod.mk.injEq] at H
 obtain ⟨rfl, rfl, rfl⟩ := H
 go_enter Tryd.func18, Tryd.ntmps18
 go_wp2_with (first | ((with_reducible refine gate_dst (N := 2) rfl ?_); refine box_event ?hg (N := 2) ?hd (cs := #[.int .u8 0, .string (⟨#[]⟩ : ByteArray), .int .i64 0]) (t := 23) ?hr ?_; (case hd => rfl); (case hg => rfl); (case hr => first | (go_simp; done) | (go_simp; rfl)); intro gb185 hg w2 hbox hb; have n0_ := Aside0.mk (below_step (by repeat (first | (with_reducible first | exact HB.out | apply below_alloc | apply pw_below_drewN | apply below_drew1) | exact HB.out)) hb); have n1_ := Aside0.mk (hbox); have n2_ := Aside0.mk ((by rw [hg]; exact (below_size (by repeat (first | (with_reducible first | exact HB.out | apply below_alloc | apply pw_below_drewN | apply below_drew1) | exact HB.out))) : w.heap.size ≤ gb185)); have n3_ := Aside0.mk ((by rw [hg]; exact (below_size (by repeat (first | (with_reducible first | exact HB.out | apply below_alloc | apply pw_below_drewN | apply below_drew1) | exact HB.out))) : w.heap.size ≤ gb185)); clear HB; have HB := n0_; have BK185 := n1_; have GW185 := n2_; have GE185 := n3_; clear n0_ n1_ n2_ n3_; clear hb hbox hg; have hcz3_0 : w2.cell? ⟨gb185, 0, none⟩ = some (.int .u8 0) := (blk_cell BK185.out 0).trans rfl; have hcz3_1 : w2.cell? ⟨gb185, 1, none⟩ = some (.string (⟨#[]⟩ : ByteArray)) := (blk_cell BK185.out 1).trans rfl; have hcz3_2 : w2.cell? ⟨gb185, 2, none⟩ = some (.int .i64 0) := (blk_cell BK185.out 2).trans rfl; have hfz3_0 := blk_frozen BK185.out 0; have hfz3_1 := blk_frozen BK185.out 1; have hfz3_2 := blk_frozen BK185.out 2))
 refine bodyPost_ret (results_cell_row rfl _ _ gb185 23 #[.int .u8 1, .string a0, .int .i64 0] (0, 0) _ rfl (by (with_reducible repeat (first | refine blk_drewN ?_ _ | refine blk_drew ?_ | refine blk_alloc ?_ _)); refine blk_put (cs := #[.int .u8 1, .string a0, .int .i64 0]) ?_ 2 _ rfl; (with_reducible repeat (first | refine blk_drewN ?_ _ | refine blk_drew ?_ | refine blk_alloc ?_ _)); refine blk_put (cs := #[.int .u8 1, .string (⟨#[]⟩ : ByteArray), .int .i64 0]) ?_ 1 _ rfl; (with_reducible repeat (first | refine blk_drewN ?_ _ | refine blk_drew ?_ | refine blk_alloc ?_ _)); refine blk_put (cs := #[.int .u8 0, .string (⟨#[]⟩ : ByteArray), .int .i64 0]) ?_ 0 _ rfl; (with_reducible repeat (first | refine blk_drewN ?_ _ | refine blk_drew ?_ | refine blk_alloc ?_ _)); exact BK185.out) Tryd.underlying23 rfl (by kernel_rfl)) rfl ?_
 exact ⟨by first | rfl | (simp [errW_none, errW_some] <;> rfl) | (simp [*, errW_none, errW_some] <;> rfl), by repeat (first | (with_reducible first | exact HB.out | apply below_alloc | apply pw_below_drewN | apply below_drew1 | refine below_set ?_ GE185.out) | exact HB.out)⟩

/-! ### quoinlaw15_number: function 19 -/
def quoinlaw15_number.f (a0 : Int) : Option (Int × ByteArray × Int) := some (2, (⟨#[]⟩ : ByteArray), a0)
set_option maxHeartbeats 8000000 in
set_option maxRecDepth 100000 in
theorem quoinlaw15_number.calls (a0 : Int) (r1 : Int) (r2 : ByteArray) (r3 : Int) (w : World) (h : quoinlaw15_number.f a0 = some (r1, r2, r3)) :
  Calls Tryd.prog 19 #[.int .i64 a0] w fun e w' => e = .returned (.agg #[.int .u8 r1, .string r2, .int .i64 r3]) ∧ Below w.heap.size w w' := by
 have hu23 := Tryd.underlying23
 have HB := Aside0.mk (Below.refl w.heap.size w)
 have H : (some (2, (⟨#[]⟩ : ByteArray), a0)) = some (r1, r2, r3) := h
 clear h
 simp only [Option.some.injEq, Prod.mk.injEq] at H
 obtain ⟨rfl, rfl, rfl⟩ := H
 go_enter Tryd.func19, Tryd.ntmps19
 go_wp2_with (first | ((with_reducible refine gate_dst (N := 2) rfl ?_); refine box_event ?hg (N := 2) ?hd (cs := #[.int .u8 0, .string (⟨#[]⟩ : ByteArray), .int .i64 0]) (t := 23) ?hr ?_; (case hd => rfl); (case hg => rfl); (case hr => first | (go_simp; done) | (go_simp; rfl)); intro gb186 hg w2 hbox hb; have n0_ := Aside0.mk (below_step (by repeat (first | (with_reducible first | exact HB.out | apply below_alloc | apply pw_below_drewN | apply below_drew1) | exact HB.out)) hb); have n1_ := Aside0.mk (hbox); have n2_ := Aside0.mk ((by rw [hg]; exact (below_size (by repeat (first | (with_reducible first | exact HB.out | apply below_alloc | apply pw_below_drewN | apply below_drew1) | exact HB.out))) : w.heap.size ≤ gb186)); have n3_ := Aside0.mk ((by rw [hg]; exact (below_size (by repeat (first | (with_reducible first | exact HB.out | apply below_alloc | apply pw_below_drewN | apply below_drew1) | exact HB.out))) : w.heap.size ≤ gb186)); clear HB; have HB := n0_; have BK186 := n1_; have GW186 := n2_; have GE186 := n3_; clear n0_ n1_ n2_ n3_; clear hb hbox hg; have hcz3_0 : w2.cell? ⟨gb186, 0, none⟩ = some (.int .u8 0) := (blk_cell BK186.out 0).trans rfl; have hcz3_1 : w2.cell? ⟨gb186, 1, none⟩ = some (.string (⟨#[]⟩ : ByteArray)) := (blk_cell BK186.out 1).trans rfl; have hcz3_2 : w2.cell? ⟨gb186, 2, none⟩ = some (.int .i64 0) := (blk_cell BK186.out 2).trans rfl; have hfz3_0 := blk_frozen BK186.out 0; have hfz3_1 := blk_frozen BK186.out 1; have hfz3_2 := blk_frozen BK186.out 2))
 refine bodyPost_ret (results_cell_row rfl _ _ gb186 23 #[.int .u8 2, .string (⟨#[]⟩ : ByteArray), .int .i64 a0] (0, 0) _ rfl (by (with_reducible repeat (first | refine blk_drewN ?_ _ | refine blk_drew ?_ | refine blk_alloc ?_ _)); refine blk_put (cs := #[.int .u8 2, .string (⟨#[]⟩ : ByteArray), .int .i64 0]) ?_ 2 _ rfl; (with_reducible repeat (first | refine blk_drewN ?_ _ | refine blk_drew ?_ | refine blk_alloc ?_ _)); refine blk_put (cs := #[.int .u8 2, .string (⟨#[]⟩ : ByteArray), .int .i64 0]) ?_ 1 _ rfl; (with_reducible repeat (first | refine blk_drewN ?_ _ | refine blk_drew ?_ | refine blk_alloc ?_ _)); refine blk_put (cs := #[.int .u8 0, .string (⟨#[]⟩ : ByteArray), .int .i64 0]) ?_ 0 _ rfl; (with_reducible repeat (first | refine blk_drewN ?_ _ | refine blk_drew ?_ | refine blk_alloc ?_ _)); exact BK186.out) Tryd.underlying23 rfl (by kernel_rfl)) rfl ?_
 exact ⟨by first | rfl | (simp [errW_none, errW_some] <;> rfl) | (simp [*, errW_none, errW_some] <;> rfl), by repeat (first | (with_reducible first | exact HB.out | apply below_alloc | apply pw_below_drewN | apply below_drew1 | refine below_set ?_ GE186.out) | exact HB.out)⟩

/-! ### quoinlaw15_mark: function 24 -/
def quoinlaw15_mark.f (a0 : ByteArray) : Option (Int × ByteArray × Int) := some (4, a0, 0)
set_option maxHeartbeats 8000000 in
set_option maxRecDepth 100000 in
theorem quoinlaw15_mark.calls (a0 : ByteArray) (r1 : Int) (r2 : ByteArray) (r3 : Int) (w : World) (h : quoinlaw15_mark.f a0 = some (r1, r2, r3)) :
  Calls Tryd.prog 24 #[.string a0] w fun e w' => e = .returned (.agg #[.int .u8 r1, .string r2, .int .i64 r3]) ∧ Below w.heap.size w w' := by
 have hu23 := Tryd.underlying23
 have HB := Aside0.mk (Below.refl w.heap.size w)
 have H : (some (4, a0, 0)) = some (r1, r2, r3) := h
 clear h
 simp only [Option.some.injEq, Prod.mk.injEq] at H
 obtain ⟨rfl, rfl, rfl⟩ := H
 go_enter Tryd.func24, Tryd.ntmps24
 go_wp2_with (first | ((with_reducible refine gate_dst (N := 2) rfl ?_); refine box_event ?hg (N := 2) ?hd (cs := #[.int .u8 0, .string (⟨#[]⟩ : ByteArray), .int .i64 0]) (t := 23) ?hr ?_; (case hd => rfl); (case hg => rfl); (case hr => first | (go_simp; done) | (go_simp; rfl)); intro gb187 hg w2 hbox hb; have n0_ := Aside0.mk (below_step (by repeat (first | (with_reducible first | exact HB.out | apply below_alloc | apply pw_below_drewN | apply below_drew1) | exact HB.out)) hb); have n1_ := Aside0.mk (hbox); have n2_ := Aside0.mk ((by rw [hg]; exact (below_size (by repeat (first | (with_reducible first | exact HB.out | apply below_alloc | apply pw_below_drewN | apply below_drew1) | exact HB.out))) : w.heap.size ≤ gb187)); have n3_ := Aside0.mk ((by rw [hg]; exact (below_size (by repeat (first | (with_reducible first | exact HB.out | apply below_alloc | apply pw_below_drewN | apply below_drew1) | exact HB.out))) : w.heap.size ≤ gb187)); clear HB; have HB := n0_; have BK187 := n1_; have GW187 := n2_; have GE187 := n3_; clear n0_ n1_ n2_ n3_; clear hb hbox hg; have hcz3_0 : w2.cell? ⟨gb187, 0, none⟩ = some (.int .u8 0) := (blk_cell BK187.out 0).trans rfl; have hcz3_1 : w2.cell? ⟨gb187, 1, none⟩ = some (.string (⟨#[]⟩ : ByteArray)) := (blk_cell BK187.out 1).trans rfl; have hcz3_2 : w2.cell? ⟨gb187, 2, none⟩ = some (.int .i64 0) := (blk_cell BK187.out 2).trans rfl; have hfz3_0 := blk_frozen BK187.out 0; have hfz3_1 := blk_frozen BK187.out 1; have hfz3_2 := blk_frozen BK187.out 2))
 refine bodyPost_ret (results_cell_row rfl _ _ gb187 23 #[.int .u8 4, .string a0, .int .i64 0] (0, 0) _ rfl (by (with_reducible repeat (first | refine blk_drewN ?_ _ | refine blk_drew ?_ | refine blk_alloc ?_ _)); refine blk_put (cs := #[.int .u8 4, .string a0, .int .i64 0]) ?_ 2 _ rfl; (with_reducible repeat (first | refine blk_drewN ?_ _ | refine blk_drew ?_ | refine blk_alloc ?_ _)); refine blk_put (cs := #[.int .u8 4, .string (⟨#[]⟩ : ByteArray), .int .i64 0]) ?_ 1 _ rfl; (with_reducible repeat (first | refine blk_drewN ?_ _ | refine blk_drew ?_ | refine blk_alloc ?_ _)); refine blk_put (cs := #[.int .u8 0, .string (⟨#[]⟩ : ByteArray), .int .i64 0]) ?_ 0 _ rfl; (with_reducible repeat (first | refine blk_drewN ?_ _ | refine blk_drew ?_ | refine blk_alloc ?_ _)); exact BK187.out) Tryd.underlying23 rfl (by kernel_rfl)) rfl ?_
 exact ⟨by first | rfl | (simp [errW_none, errW_some] <;> rfl) | (simp [*, errW_none, errW_some] <;> rfl), by repeat (first | (with_reducible first | exact HB.out | apply below_alloc | apply pw_below_drewN | apply below_drew1 | refine below_set ?_ GE187.out) | exact HB.out)⟩

/-! ### quoinlaw15_alive: function 15 -/
def quoinlaw15_alive.f (k : Nat)  : Option (Bool) := (quoinlaw15_word.f (⟨#[97]⟩ : ByteArray)).bind fun bt188 => ((quoinlaw15_mark.f (⟨#[58]⟩ : ByteArray)).bind fun bt191 => ((quoinlaw15_word.f (⟨#[108, 105]⟩ : ByteArray)).bind fun bt194 => ((quoinlaw15_word.f (⟨#[116, 48]⟩ : ByteArray)).bind fun bt197 => ((quoinlaw15_mark.f (⟨#[44]⟩ : ByteArray)).bind fun bt200 => ((quoinlaw15_mark.f (⟨#[45]⟩ : ByteArray)).bind fun bt203 => ((quoinlaw15_number.f 16).bind fun bt206 => ((quoinlaw15_is.f k (⟨#[97, 58, 32, 108, 105, 32, 116, 48, 44, 32, 45, 48, 120, 49, 48, 32, 35, 32, 120]⟩ : ByteArray) (([(⟨bt188.1, bt188.2.1, bt188.2.2⟩ : S23), (⟨bt191.1, bt191.2.1, bt191.2.2⟩ : S23), (⟨bt194.1, bt194.2.1, bt194.2.2⟩ : S23), (⟨bt197.1, bt197.2.1, bt197.2.2⟩ : S23), (⟨bt200.1, bt200.2.1, bt200.2.2⟩ : S23), (⟨bt203.1, bt203.2.1, bt203.2.2⟩ : S23), (⟨bt206.1, bt206.2.1, bt206.2.2⟩ : S23)] : List (S23)))).bind fun t212 => (if t212 = true then ((quoinlaw15_word.f (⟨#[106]⟩ : ByteArray)).bind fun bt213 => ((quoinlaw15_word.f (⟨#[49, 102]⟩ : ByteArray)).bind fun bt216 => ((quoinlaw15_is.f k (⟨#[106, 32, 49, 102]⟩ : ByteArray) (([(⟨bt213.1, bt213.2.1, bt213.2.2⟩ : S23), (⟨bt216.1, bt216.2.1, bt216.2.2⟩ : S23)] : List (S23)))).bind fun t222 => (some t222)))) else (some false)))))))))
theorem quoinlaw15_alive.mono : ∀ k, LeO (quoinlaw15_alive.f k ) (quoinlaw15_alive.f (k + 1) ) := by
 intro  k
 unfold quoinlaw15_alive.f
 repeat' first
   | (with_reducible exact quoinlaw15_is.mono _ _ _)
   | (with_reducible exact LeO.refl _)
   | (with_reducible exact LeO.none _)
   | (with_reducible refine LeO.ite ?_ ?_)
   | (with_reducible refine LeO.bind ?_ (fun _ => ?_))
   | exact quoinlaw15_is.mono _ _ _
   | exact LeO.none _
   | refine LeO.ite ?_ ?_
   | refine LeO.bind ?_ (fun _ => ?_)
set_option maxHeartbeats 8000000 in
set_option maxRecDepth 100000 in
theorem quoinlaw15_alive.calls (k : Nat)  (r : Bool) (w : World) (hE : LexW.LexE w) (h : quoinlaw15_alive.f k  = some r) :
  Calls Tryd.prog 15 #[] w fun e w' => e = .returned (.bool r) ∧ Below w.heap.size w w' := by
 have HE_ := Aside0.mk hE
 clear hE
 have HB := Aside0.mk (Below.refl w.heap.size w)
 have H : ((quoinlaw15_word.f (⟨#[97]⟩ : ByteArray)).bind fun bt188 => ((quoinlaw15_mark.f (⟨#[58]⟩ : ByteArray)).bind fun bt191 => ((quoinlaw15_word.f (⟨#[108, 105]⟩ : ByteArray)).bind fun bt194 => ((quoinlaw15_word.f (⟨#[116, 48]⟩ : ByteArray)).bind fun bt197 => ((quoinlaw15_mark.f (⟨#[44]⟩ : ByteArray)).bind fun bt200 => ((quoinlaw15_mark.f (⟨#[45]⟩ : ByteArray)).bind fun bt203 => ((quoinlaw15_number.f 16).bind fun bt206 => ((quoinlaw15_is.f k (⟨#[97, 58, 32, 108, 105, 32, 116, 48, 44, 32, 45, 48, 120, 49, 48, 32, 35, 32, 120]⟩ : ByteArray) (([(⟨bt188.1, bt188.2.1, bt188.2.2⟩ : S23), (⟨bt191.1, bt191.2.1, bt191.2.2⟩ : S23), (⟨bt194.1, bt194.2.1, bt194.2.2⟩ : S23), (⟨bt197.1, bt197.2.1, bt197.2.2⟩ : S23), (⟨bt200.1, bt200.2.1, bt200.2.2⟩ : S23), (⟨bt203.1, bt203.2.1, bt203.2.2⟩ : S23), (⟨bt206.1, bt206.2.1, bt206.2.2⟩ : S23)] : List (S23)))).bind fun t212 => (if t212 = true then ((quoinlaw15_word.f (⟨#[106]⟩ : ByteArray)).bind fun bt213 => ((quoinlaw15_word.f (⟨#[49, 102]⟩ : ByteArray)).bind fun bt216 => ((quoinlaw15_is.f k (⟨#[106, 32, 49, 102]⟩ : ByteArray) (([(⟨bt213.1, bt213.2.1, bt213.2.2⟩ : S23), (⟨bt216.1, bt216.2.1, bt216.2.2⟩ : S23)] : List (S23)))).bind fun t222 => (some t222)))) else (some false)))))))))) = some r := h
 clear h
 replace H := Option.bind_eq_some_iff.mp H
 obtain ⟨⟨t188, t189, t190⟩, A10, H⟩ := H
 replace H : ((quoinlaw15_mark.f (⟨#[58]⟩ : ByteArray)).bind fun bt191 => ((quoinlaw15_word.f (⟨#[108, 105]⟩ : ByteArray)).bind fun bt194 => ((quoinlaw15_word.f (⟨#[116, 48]⟩ : ByteArray)).bind fun bt197 => ((quoinlaw15_mark.f (⟨#[44]⟩ : ByteArray)).bind fun bt200 => ((quoinlaw15_mark.f (⟨#[45]⟩ : ByteArray)).bind fun bt203 => ((quoinlaw15_number.f 16).bind fun bt206 => ((quoinlaw15_is.f k (⟨#[97, 58, 32, 108, 105, 32, 116, 48, 44, 32, 45, 48, 120, 49, 48, 32, 35, 32, 120]⟩ : ByteArray) (([(⟨t188, t189, t190⟩ : S23), (⟨bt191.1, bt191.2.1, bt191.2.2⟩ : S23), (⟨bt194.1, bt194.2.1, bt194.2.2⟩ : S23), (⟨bt197.1, bt197.2.1, bt197.2.2⟩ : S23), (⟨bt200.1, bt200.2.1, bt200.2.2⟩ : S23), (⟨bt203.1, bt203.2.1, bt203.2.2⟩ : S23), (⟨bt206.1, bt206.2.1, bt206.2.2⟩ : S23)] : List (S23)))).bind fun t212 => (if t212 = true then ((quoinlaw15_word.f (⟨#[106]⟩ : ByteArray)).bind fun bt213 => ((quoinlaw15_word.f (⟨#[49, 102]⟩ : ByteArray)).bind fun bt216 => ((quoinlaw15_is.f k (⟨#[106, 32, 49, 102]⟩ : ByteArray) (([(⟨bt213.1, bt213.2.1, bt213.2.2⟩ : S23), (⟨bt216.1, bt216.2.1, bt216.2.2⟩ : S23)] : List (S23)))).bind fun t222 => (some t222)))) else (some false))))))))) = some r := H
 have A1 := Aside0.mk A10
 clear A10
 replace H := Option.bind_eq_some_iff.mp H
 obtain ⟨⟨t191, t192, t193⟩, A20, H⟩ := H
 replace H : ((quoinlaw15_word.f (⟨#[108, 105]⟩ : ByteArray)).bind fun bt194 => ((quoinlaw15_word.f (⟨#[116, 48]⟩ : ByteArray)).bind fun bt197 => ((quoinlaw15_mark.f (⟨#[44]⟩ : ByteArray)).bind fun bt200 => ((quoinlaw15_mark.f (⟨#[45]⟩ : ByteArray)).bind fun bt203 => ((quoinlaw15_number.f 16).bind fun bt206 => ((quoinlaw15_is.f k (⟨#[97, 58, 32, 108, 105, 32, 116, 48, 44, 32, 45, 48, 120, 49, 48, 32, 35, 32, 120]⟩ : ByteArray) (([(⟨t188, t189, t190⟩ : S23), (⟨t191, t192, t193⟩ : S23), (⟨bt194.1, bt194.2.1, bt194.2.2⟩ : S23), (⟨bt197.1, bt197.2.1, bt197.2.2⟩ : S23), (⟨bt200.1, bt200.2.1, bt200.2.2⟩ : S23), (⟨bt203.1, bt203.2.1, bt203.2.2⟩ : S23), (⟨bt206.1, bt206.2.1, bt206.2.2⟩ : S23)] : List (S23)))).bind fun t212 => (if t212 = true then ((quoinlaw15_word.f (⟨#[106]⟩ : ByteArray)).bind fun bt213 => ((quoinlaw15_word.f (⟨#[49, 102]⟩ : ByteArray)).bind fun bt216 => ((quoinlaw15_is.f k (⟨#[106, 32, 49, 102]⟩ : ByteArray) (([(⟨bt213.1, bt213.2.1, bt213.2.2⟩ : S23), (⟨bt216.1, bt216.2.1, bt216.2.2⟩ : S23)] : List (S23)))).bind fun t222 => (some t222)))) else (some false)))))))) = some r := H
 have A2 := Aside0.mk A20
 clear A20
 replace H := Option.bind_eq_some_iff.mp H
 obtain ⟨⟨t194, t195, t196⟩, A30, H⟩ := H
 replace H : ((quoinlaw15_word.f (⟨#[116, 48]⟩ : ByteArray)).bind fun bt197 => ((quoinlaw15_mark.f (⟨#[44]⟩ : ByteArray)).bind fun bt200 => ((quoinlaw15_mark.f (⟨#[45]⟩ : ByteArray)).bind fun bt203 => ((quoinlaw15_number.f 16).bind fun bt206 => ((quoinlaw15_is.f k (⟨#[97, 58, 32, 108, 105, 32, 116, 48, 44, 32, 45, 48, 120, 49, 48, 32, 35, 32, 120]⟩ : ByteArray) (([(⟨t188, t189, t190⟩ : S23), (⟨t191, t192, t193⟩ : S23), (⟨t194, t195, t196⟩ : S23), (⟨bt197.1, bt197.2.1, bt197.2.2⟩ : S23), (⟨bt200.1, bt200.2.1, bt200.2.2⟩ : S23), (⟨bt203.1, bt203.2.1, bt203.2.2⟩ : S23), (⟨bt206.1, bt206.2.1, bt206.2.2⟩ : S23)] : List (S23)))).bind fun t212 => (if t212 = true then ((quoinlaw15_word.f (⟨#[106]⟩ : ByteArray)).bind fun bt213 => ((quoinlaw15_word.f (⟨#[49, 102]⟩ : ByteArray)).bind fun bt216 => ((quoinlaw15_is.f k (⟨#[106, 32, 49, 102]⟩ : ByteArray) (([(⟨bt213.1, bt213.2.1, bt213.2.2⟩ : S23), (⟨bt216.1, bt216.2.1, bt216.2.2⟩ : S23)] : List (S23)))).bind fun t222 => (some t222)))) else (some false))))))) = some r := H
 have A3 := Aside0.mk A30
 clear A30
 replace H := Option.bind_eq_some_iff.mp H
 obtain ⟨⟨t197, t198, t199⟩, A40, H⟩ := H
 replace H : ((quoinlaw15_mark.f (⟨#[44]⟩ : ByteArray)).bind fun bt200 => ((quoinlaw15_mark.f (⟨#[45]⟩ : ByteArray)).bind fun bt203 => ((quoinlaw15_number.f 16).bind fun bt206 => ((quoinlaw15_is.f k (⟨#[97, 58, 32, 108, 105, 32, 116, 48, 44, 32, 45, 48, 120, 49, 48, 32, 35, 32, 120]⟩ : ByteArray) (([(⟨t188, t189, t190⟩ : S23), (⟨t191, t192, t193⟩ : S23), (⟨t194, t195, t196⟩ : S23), (⟨t197, t198, t199⟩ : S23), (⟨bt200.1, bt200.2.1, bt200.2.2⟩ : S23), (⟨bt203.1, bt203.2.1, bt203.2.2⟩ : S23), (⟨bt206.1, bt206.2.1, bt206.2.2⟩ : S23)] : List (S23)))).bind fun t212 => (if t212 = true then ((quoinlaw15_word.f (⟨#[106]⟩ : ByteArray)).bind fun bt213 => ((quoinlaw15_word.f (⟨#[49, 102]⟩ : ByteArray)).bind fun bt216 => ((quoinlaw15_is.f k (⟨#[106, 32, 49, 102]⟩ : ByteArray) (([(⟨bt213.1, bt213.2.1, bt213.2.2⟩ : S23), (⟨bt216.1, bt216.2.1, bt216.2.2⟩ : S23)] : List (S23)))).bind fun t222 => (some t222)))) else (some false)))))) = some r := H
 have A4 := Aside0.mk A40
 clear A40
 replace H := Option.bind_eq_some_iff.mp H
 obtain ⟨⟨t200, t201, t202⟩, A50, H⟩ := H
 replace H : ((quoinlaw15_mark.f (⟨#[45]⟩ : ByteArray)).bind fun bt203 => ((quoinlaw15_number.f 16).bind fun bt206 => ((quoinlaw15_is.f k (⟨#[97, 58, 32, 108, 105, 32, 116, 48, 44, 32, 45, 48, 120, 49, 48, 32, 35, 32, 120]⟩ : ByteArray) (([(⟨t188, t189, t190⟩ : S23), (⟨t191, t192, t193⟩ : S23), (⟨t194, t195, t196⟩ : S23), (⟨t197, t198, t199⟩ : S23), (⟨t200, t201, t202⟩ : S23), (⟨bt203.1, bt203.2.1, bt203.2.2⟩ : S23), (⟨bt206.1, bt206.2.1, bt206.2.2⟩ : S23)] : List (S23)))).bind fun t212 => (if t212 = true then ((quoinlaw15_word.f (⟨#[106]⟩ : ByteArray)).bind fun bt213 => ((quoinlaw15_word.f (⟨#[49, 102]⟩ : ByteArray)).bind fun bt216 => ((quoinlaw15_is.f k (⟨#[106, 32, 49, 102]⟩ : ByteArray) (([(⟨bt213.1, bt213.2.1, bt213.2.2⟩ : S23), (⟨bt216.1, bt216.2.1, bt216.2.2⟩ : S23)] : List (S23)))).bind fun t222 => (some t222)))) else (some false))))) = some r := H
 have A5 := Aside0.mk A50
 clear A50
 replace H := Option.bind_eq_some_iff.mp H
 obtain ⟨⟨t203, t204, t205⟩, A60, H⟩ := H
 replace H : ((quoinlaw15_number.f 16).bind fun bt206 => ((quoinlaw15_is.f k (⟨#[97, 58, 32, 108, 105, 32, 116, 48, 44, 32, 45, 48, 120, 49, 48, 32, 35, 32, 120]⟩ : ByteArray) (([(⟨t188, t189, t190⟩ : S23), (⟨t191, t192, t193⟩ : S23), (⟨t194, t195, t196⟩ : S23), (⟨t197, t198, t199⟩ : S23), (⟨t200, t201, t202⟩ : S23), (⟨t203, t204, t205⟩ : S23), (⟨bt206.1, bt206.2.1, bt206.2.2⟩ : S23)] : List (S23)))).bind fun t212 => (if t212 = true then ((quoinlaw15_word.f (⟨#[106]⟩ : ByteArray)).bind fun bt213 => ((quoinlaw15_word.f (⟨#[49, 102]⟩ : ByteArray)).bind fun bt216 => ((quoinlaw15_is.f k (⟨#[106, 32, 49, 102]⟩ : ByteArray) (([(⟨bt213.1, bt213.2.1, bt213.2.2⟩ : S23), (⟨bt216.1, bt216.2.1, bt216.2.2⟩ : S23)] : List (S23)))).bind fun t222 => (some t222)))) else (some false)))) = some r := H
 have A6 := Aside0.mk A60
 clear A60
 replace H := Option.bind_eq_some_iff.mp H
 obtain ⟨⟨t206, t207, t208⟩, A70, H⟩ := H
 replace H : ((quoinlaw15_is.f k (⟨#[97, 58, 32, 108, 105, 32, 116, 48, 44, 32, 45, 48, 120, 49, 48, 32, 35, 32, 120]⟩ : ByteArray) (([(⟨t188, t189, t190⟩ : S23), (⟨t191, t192, t193⟩ : S23), (⟨t194, t195, t196⟩ : S23), (⟨t197, t198, t199⟩ : S23), (⟨t200, t201, t202⟩ : S23), (⟨t203, t204, t205⟩ : S23), (⟨t206, t207, t208⟩ : S23)] : List (S23)))).bind fun t212 => (if t212 = true then ((quoinlaw15_word.f (⟨#[106]⟩ : ByteArray)).bind fun bt213 => ((quoinlaw15_word.f (⟨#[49, 102]⟩ : ByteArray)).bind fun bt216 => ((quoinlaw15_is.f k (⟨#[106, 32, 49, 102]⟩ : ByteArray) (([(⟨bt213.1, bt213.2.1, bt213.2.2⟩ : S23), (⟨bt216.1, bt216.2.1, bt216.2.2⟩ : S23)] : List (S23)))).bind fun t222 => (some t222)))) else (some false))) = some r := H
 have A7 := Aside0.mk A70
 clear A70
 obtain ⟨y209, hy209⟩ : ∃ y_ : List (S23), y_ = (([(⟨t188, t189, t190⟩ : S23), (⟨t191, t192, t193⟩ : S23), (⟨t194, t195, t196⟩ : S23), (⟨t197, t198, t199⟩ : S23), (⟨t200, t201, t202⟩ : S23), (⟨t203, t204, t205⟩ : S23), (⟨t206, t207, t208⟩ : S23)] : List (S23))) := ⟨_, rfl⟩
 replace H : ((quoinlaw15_is.f k (⟨#[97, 58, 32, 108, 105, 32, 116, 48, 44, 32, 45, 48, 120, 49, 48, 32, 35, 32, 120]⟩ : ByteArray) y209).bind fun t212 => (if t212 = true then ((quoinlaw15_word.f (⟨#[106]⟩ : ByteArray)).bind fun bt213 => ((quoinlaw15_word.f (⟨#[49, 102]⟩ : ByteArray)).bind fun bt216 => ((quoinlaw15_is.f k (⟨#[106, 32, 49, 102]⟩ : ByteArray) (([(⟨bt213.1, bt213.2.1, bt213.2.2⟩ : S23), (⟨bt216.1, bt216.2.1, bt216.2.2⟩ : S23)] : List (S23)))).bind fun t222 => (some t222)))) else (some false))) = some r := by first | (rw [hy209]; with_reducible exact H) | (have H2_ := (Option.bind_some _ _).symm.trans H; rw [hy209]; with_reducible exact H2_) | (have H2_ := (Option.bind_some _ _).symm.trans H; with_reducible exact H2_) | with_reducible exact H | (rw [hy209]; exact H) | exact H
 have Ny209 := Aside0.mk hy209
 clear hy209
 replace H := Option.bind_eq_some_iff.mp H
 obtain ⟨t212, A80, H⟩ := H
 replace H : (if t212 = true then ((quoinlaw15_word.f (⟨#[106]⟩ : ByteArray)).bind fun bt213 => ((quoinlaw15_word.f (⟨#[49, 102]⟩ : ByteArray)).bind fun bt216 => ((quoinlaw15_is.f k (⟨#[106, 32, 49, 102]⟩ : ByteArray) (([(⟨bt213.1, bt213.2.1, bt213.2.2⟩ : S23), (⟨bt216.1, bt216.2.1, bt216.2.2⟩ : S23)] : List (S23)))).bind fun t222 => (some t222)))) else (some false)) = some r := H
 have A8 := Aside0.mk A80
 clear A80
 by_cases c9 : t212 = true
 ·
  subst c9
  have H1 : ((quoinlaw15_word.f (⟨#[106]⟩ : ByteArray)).bind fun bt213 => ((quoinlaw15_word.f (⟨#[49, 102]⟩ : ByteArray)).bind fun bt216 => ((quoinlaw15_is.f k (⟨#[106, 32, 49, 102]⟩ : ByteArray) (([(⟨bt213.1, bt213.2.1, bt213.2.2⟩ : S23), (⟨bt216.1, bt216.2.1, bt216.2.2⟩ : S23)] : List (S23)))).bind fun t222 => (some t222)))) = some r := by rw [if_pos rfl] at H; exact H
  clear H
  have H := H1
  clear H1
  replace H := Option.bind_eq_some_iff.mp H
  obtain ⟨⟨t213, t214, t215⟩, A100, H⟩ := H
  replace H : ((quoinlaw15_word.f (⟨#[49, 102]⟩ : ByteArray)).bind fun bt216 => ((quoinlaw15_is.f k (⟨#[106, 32, 49, 102]⟩ : ByteArray) (([(⟨t213, t214, t215⟩ : S23), (⟨bt216.1, bt216.2.1, bt216.2.2⟩ : S23)] : List (S23)))).bind fun t222 => (some t222))) = some r := H
  have A10 := Aside0.mk A100
  clear A100
  replace H := Option.bind_eq_some_iff.mp H
  obtain ⟨⟨t216, t217, t218⟩, A110, H⟩ := H
  replace H : ((quoinlaw15_is.f k (⟨#[106, 32, 49, 102]⟩ : ByteArray) (([(⟨t213, t214, t215⟩ : S23), (⟨t216, t217, t218⟩ : S23)] : List (S23)))).bind fun t222 => (some t222)) = some r := H
  have A11 := Aside0.mk A110
  clear A110
  obtain ⟨y219, hy219⟩ : ∃ y_ : List (S23), y_ = (([(⟨t213, t214, t215⟩ : S23), (⟨t216, t217, t218⟩ : S23)] : List (S23))) := ⟨_, rfl⟩
  replace H : ((quoinlaw15_is.f k (⟨#[106, 32, 49, 102]⟩ : ByteArray) y219).bind fun t222 => (some t222)) = some r := by first | (rw [hy219]; with_reducible exact H) | (have H2_ := (Option.bind_some _ _).symm.trans H; rw [hy219]; with_reducible exact H2_) | (have H2_ := (Option.bind_some _ _).symm.trans H; with_reducible exact H2_) | with_reducible exact H | (rw [hy219]; exact H) | exact H
  have Ny219 := Aside0.mk hy219
  clear hy219
  replace H := Option.bind_eq_some_iff.mp H
  obtain ⟨t222, A120, H⟩ := H
  replace H : (some t222) = some r := H
  have A12 := Aside0.mk A120
  clear A120
  obtain rfl := Option.some.inj H
  go_enter Tryd.func15, Tryd.ntmps15
  go_wp2_with (first | ((with_reducible refine gate_callee (f := 18) rfl ?_); refine goesL_ (some 1) rfl rfl Tryd.func18 (by kernel_rfl) rfl #[.string (⟨#[97]⟩ : ByteArray)] rfl (by (try simp only [List.map_toArray, List.map_cons, List.map_nil]); first | done | rfl | (simp only [List.length_drop, List.length_take]; rfl)) ?_; (with_reducible refine (quoinlaw15_word.calls (⟨#[97]⟩ : ByteArray) t188 t189 t190 _ A1.out).mono ?_); rintro e w13 ⟨rfl, hb⟩; refine ⟨_, rfl, ?_⟩; have n0_ := Aside0.mk (below_step (by repeat (first | (with_reducible first | exact HB.out | apply below_alloc | apply pw_below_drewN | apply below_drew1) | exact HB.out)) hb); clear HB; have HB := n0_; clear n0_; (try clear hb); (try clear hb2); (try clear hk); (try clear hi)) | ((with_reducible refine gate_callee (f := 24) rfl ?_); refine goesL_ (some 2) rfl rfl Tryd.func24 (by kernel_rfl) rfl #[.string (⟨#[58]⟩ : ByteArray)] rfl (by (try simp only [List.map_toArray, List.map_cons, List.map_nil]); first | done | rfl | (simp only [List.length_drop, List.length_take]; rfl)) ?_; (with_reducible refine (quoinlaw15_mark.calls (⟨#[58]⟩ : ByteArray) t191 t192 t193 _ A2.out).mono ?_); rintro e w14 ⟨rfl, hb⟩; refine ⟨_, rfl, ?_⟩; have n0_ := Aside0.mk (below_step (by repeat (first | (with_reducible first | exact HB.out | apply below_alloc | apply pw_below_drewN | apply below_drew1) | exact HB.out)) hb); clear HB; have HB := n0_; clear n0_; (try clear hb); (try clear hb2); (try clear hk); (try clear hi)) | ((with_reducible refine gate_callee (f := 18) rfl ?_); refine goesL_ (some 3) rfl rfl Tryd.func18 (by kernel_rfl) rfl #[.string (⟨#[108, 105]⟩ : ByteArray)] rfl (by (try simp only [List.map_toArray, List.map_cons, List.map_nil]); first | done | rfl | (simp only [List.length_drop, List.length_take]; rfl)) ?_; (with_reducible refine (quoinlaw15_word.calls (⟨#[108, 105]⟩ : ByteArray) t194 t195 t196 _ A3.out).mono ?_); rintro e w15 ⟨rfl, hb⟩; refine ⟨_, rfl, ?_⟩; have n0_ := Aside0.mk (below_step (by repeat (first | (with_reducible first | exact HB.out | apply below_alloc | apply pw_below_drewN | apply below_drew1) | exact HB.out)) hb); clear HB; have HB := n0_; clear n0_; (try clear hb); (try clear hb2); (try clear hk); (try clear hi)) | ((with_reducible refine gate_callee (f := 18) rfl ?_); refine goesL_ (some 4) rfl rfl Tryd.func18 (by kernel_rfl) rfl #[.string (⟨#[116, 48]⟩ : ByteArray)] rfl (by (try simp only [List.map_toArray, List.map_cons, List.map_nil]); first | done | rfl | (simp only [List.length_drop, List.length_take]; rfl)) ?_; (with_reducible refine (quoinlaw15_word.calls (⟨#[116, 48]⟩ : ByteArray) t197 t198 t199 _ A4.out).mono ?_); rintro e w16 ⟨rfl, hb⟩; refine ⟨_, rfl, ?_⟩; have n0_ := Aside0.mk (below_step (by repeat (first | (with_reducible first | exact HB.out | apply below_alloc | apply pw_below_drewN | apply below_drew1) | exact HB.out)) hb); clear HB; have HB := n0_; clear n0_; (try clear hb); (try clear hb2); (try clear hk); (try clear hi)) | ((with_reducible refine gate_callee (f := 24) rfl ?_); refine goesL_ (some 5) rfl rfl Tryd.func24 (by kernel_rfl) rfl #[.string (⟨#[44]⟩ : ByteArray)] rfl (by (try simp only [List.map_toArray, List.map_cons, List.map_nil]); first | done | rfl | (simp only [List.length_drop, List.length_take]; rfl)) ?_; (with_reducible refine (quoinlaw15_mark.calls (⟨#[44]⟩ : ByteArray) t200 t201 t202 _ A5.out).mono ?_); rintro e w17 ⟨rfl, hb⟩; refine ⟨_, rfl, ?_⟩; have n0_ := Aside0.mk (below_step (by repeat (first | (with_reducible first | exact HB.out | apply below_alloc | apply pw_below_drewN | apply below_drew1) | exact HB.out)) hb); clear HB; have HB := n0_; clear n0_; (try clear hb); (try clear hb2); (try clear hk); (try clear hi)) | ((with_reducible refine gate_callee (f := 24) rfl ?_); refine goesL_ (some 6) rfl rfl Tryd.func24 (by kernel_rfl) rfl #[.string (⟨#[45]⟩ : ByteArray)] rfl (by (try simp only [List.map_toArray, List.map_cons, List.map_nil]); first | done | rfl | (simp only [List.length_drop, List.length_take]; rfl)) ?_; (with_reducible refine (quoinlaw15_mark.calls (⟨#[45]⟩ : ByteArray) t203 t204 t205 _ A6.out).mono ?_); rintro e w18 ⟨rfl, hb⟩; refine ⟨_, rfl, ?_⟩; have n0_ := Aside0.mk (below_step (by repeat (first | (with_reducible first | exact HB.out | apply below_alloc | apply pw_below_drewN | apply below_drew1) | exact HB.out)) hb); clear HB; have HB := n0_; clear n0_; (try clear hb); (try clear hb2); (try clear hk); (try clear hi)) | ((with_reducible refine gate_callee (f := 19) rfl ?_); refine goesL_ (some 7) rfl rfl Tryd.func19 (by kernel_rfl) rfl #[.int .i64 16] rfl (by (try simp only [List.map_toArray, List.map_cons, List.map_nil]); first | done | rfl | (simp only [List.length_drop, List.length_take]; rfl)) ?_; (with_reducible refine (quoinlaw15_number.calls 16 t206 t207 t208 _ A7.out).mono ?_); rintro e w19 ⟨rfl, hb⟩; refine ⟨_, rfl, ?_⟩; have n0_ := Aside0.mk (below_step (by repeat (first | (with_reducible first | exact HB.out | apply below_alloc | apply pw_below_drewN | apply below_drew1) | exact HB.out)) hb); clear HB; have HB := n0_; clear n0_; (try clear hb); (try clear hb2); (try clear hk); (try clear hi)) | ((with_reducible refine gate_dst (N := 8) rfl ?_); (try (refine gate_guard (by rfl) ?_; dsimp only)); refine Kd.R_lit k23 _ 23 ?hg (N := 8) ?hd (xs := ([(⟨t188, t189, t190⟩ : S23), (⟨t191, t192, t193⟩ : S23), (⟨t194, t195, t196⟩ : S23), (⟨t197, t198, t199⟩ : S23), (⟨t200, t201, t202⟩ : S23), (⟨t203, t204, t205⟩ : S23), (⟨t206, t207, t208⟩ : S23)] : List (S23))) (inner := [.int .u8 t188, .string t189, .int .i64 t190, .int .u8 t191, .string t192, .int .i64 t193, .int .u8 t194, .string t195, .int .i64 t196, .int .u8 t197, .string t198, .int .i64 t199, .int .u8 t200, .string t201, .int .i64 t202, .int .u8 t203, .string t204, .int .i64 t205, .int .u8 t206, .string t207, .int .i64 t208]) (ok := fun _ => True) (okp := fun _ => True) ?hr ?hp (fun _ hk => hk) trivial (Below.refl _ _) (Nat.le_refl _) (by simp) ?_; (case hd => rfl); (case hg => rfl); (case hr => first | (go_simp; done) | (go_simp; rfl)); (case hp => exact (Reps.c3 (show Kd.M k23 _ _ _ (⟨t188, t189, t190⟩ : S23) [.int .u8 t188, .string t189, .int .i64 t190] from (k23_mkM _ _ _ (⟨t188, t189, t190⟩ : S23) )) (Reps.c3 (show Kd.M k23 _ _ _ (⟨t191, t192, t193⟩ : S23) [.int .u8 t191, .string t192, .int .i64 t193] from (k23_mkM _ _ _ (⟨t191, t192, t193⟩ : S23) )) (Reps.c3 (show Kd.M k23 _ _ _ (⟨t194, t195, t196⟩ : S23) [.int .u8 t194, .string t195, .int .i64 t196] from (k23_mkM _ _ _ (⟨t194, t195, t196⟩ : S23) )) (Reps.c3 (show Kd.M k23 _ _ _ (⟨t197, t198, t199⟩ : S23) [.int .u8 t197, .string t198, .int .i64 t199] from (k23_mkM _ _ _ (⟨t197, t198, t199⟩ : S23) )) (Reps.c3 (show Kd.M k23 _ _ _ (⟨t200, t201, t202⟩ : S23) [.int .u8 t200, .string t201, .int .i64 t202] from (k23_mkM _ _ _ (⟨t200, t201, t202⟩ : S23) )) (Reps.c3 (show Kd.M k23 _ _ _ (⟨t203, t204, t205⟩ : S23) [.int .u8 t203, .string t204, .int .i64 t205] from (k23_mkM _ _ _ (⟨t203, t204, t205⟩ : S23) )) (Reps.c3 (show Kd.M k23 _ _ _ (⟨t206, t207, t208⟩ : S23) [.int .u8 t206, .string t207, .int .i64 t208] from (k23_mkM _ _ _ (⟨t206, t207, t208⟩ : S23) )) (Reps.none _ _))))))))); intro v210 w20 ho21 hb hg_ hnew_; clear hg_ hnew_; (first | rw [← Ny209.out] at ho21 | (simp only [Int.reduceToNat] at ho21; rw [← Ny209.out] at ho21)); have n0_ := Aside0.mk (Kd.R_lower ho21 (below_size (by repeat (first | (with_reducible first | exact HB.out | apply below_alloc | apply pw_below_drewN | apply below_drew1) | exact HB.out)))); have n1_ := Aside0.mk (below_step (by repeat (first | (with_reducible first | exact HB.out | apply below_alloc | apply pw_below_drewN | apply below_drew1) | exact HB.out)) hb); clear HB; have HO211 := n0_; have HB := n1_; clear n0_ n1_; clear hb ho21; obtain ⟨Ao22, co22, eo22⟩ := Kd.R_slice HO211.out; subst eo22) | ((with_reducible refine gate_callee (f := 17) rfl ?_); refine goesL_ (some 9) rfl rfl Tryd.func17 (by kernel_rfl) rfl #[.string (⟨#[97, 58, 32, 108, 105, 32, 116, 48, 44, 32, 45, 48, 120, 49, 48, 32, 35, 32, 120]⟩ : ByteArray), .slice Ao22 y209.length co22] rfl (by (try simp only [List.map_toArray, List.map_cons, List.map_nil]); first | done | rfl | (simp only [List.length_drop, List.length_take]; rfl)) ?_; (with_reducible refine (quoinlaw15_is.calls k (⟨#[97, 58, 32, 108, 105, 32, 116, 48, 44, 32, 45, 48, 120, 49, 48, 32, 35, 32, 120]⟩ : ByteArray) _ _ y209 true _ ?side1 ?side2 ?side3 A8.out).mono ?_); (case side1 => repeat (first | exact (Kd.R_reads' HO211.out).2.2 | (with_reducible refine Kd.C_alloc ?_ _) | (with_reducible refine Kd.C_drewN ?_ _) | (with_reducible refine Kd.C_drew ?_))); (case side2 => exact (Kd.R_reads' HO211.out).2.1); (case side3 => exact HE_.out.below (by repeat (first | (with_reducible first | exact HB.out | apply below_alloc | apply pw_below_drewN | apply below_drew1) | exact HB.out))); rintro e w23 ⟨rfl, hb⟩; refine ⟨_, rfl, ?_⟩; have n0_ := Aside0.mk (Kd.R_below (by (with_reducible repeat (first | apply Kd.R_alloc | apply Kd.R_drewN | apply Kd.R_drew)); exact HO211.out) hb); have n1_ := Aside0.mk (below_step (by repeat (first | (with_reducible first | exact HB.out | apply below_alloc | apply pw_below_drewN | apply below_drew1) | exact HB.out)) hb); clear HO211; clear HB; have HO211 := n0_; have HB := n1_; clear n0_ n1_; (try clear hb); (try clear hb2); (try clear hk); (try clear hi)) | (go_at_call 18; (with_reducible refine (quoinlaw15_word.calls (⟨#[106]⟩ : ByteArray) t213 t214 t215 _ A10.out).mono ?_); rintro e w24 ⟨rfl, hb⟩; have n0_ := Aside0.mk (Kd.R_below (by (with_reducible repeat (first | apply Kd.R_alloc | apply Kd.R_drewN | apply Kd.R_drew)); exact HO211.out) hb); have n1_ := Aside0.mk (below_step (by repeat (first | (with_reducible first | exact HB.out | apply below_alloc | apply pw_below_drewN | apply below_drew1) | exact HB.out)) hb); clear HO211; clear HB; have HO211 := n0_; have HB := n1_; clear n0_ n1_; (try clear hb); (try clear hb2); (try clear hk); (try clear hi)) | (go_at_call 18; (with_reducible refine (quoinlaw15_word.calls (⟨#[49, 102]⟩ : ByteArray) t216 t217 t218 _ A11.out).mono ?_); rintro e w25 ⟨rfl, hb⟩; have n0_ := Aside0.mk (Kd.R_below (by (with_reducible repeat (first | apply Kd.R_alloc | apply Kd.R_drewN | apply Kd.R_drew)); exact HO211.out) hb); have n1_ := Aside0.mk (below_step (by repeat (first | (with_reducible first | exact HB.out | apply below_alloc | apply pw_below_drewN | apply below_drew1) | exact HB.out)) hb); clear HO211; clear HB; have HO211 := n0_; have HB := n1_; clear n0_ n1_; (try clear hb); (try clear hb2); (try clear hk); (try clear hi)) | ((with_reducible refine gate_dst (N := 13) rfl ?_); (try (refine gate_guard (by rfl) ?_; dsimp only)); refine Kd.R_lit k23 _ 23 ?hg (N := 13) ?hd (xs := ([(⟨t213, t214, t215⟩ : S23), (⟨t216, t217, t218⟩ : S23)] : List (S23))) (inner := [.int .u8 t213, .string t214, .int .i64 t215, .int .u8 t216, .string t217, .int .i64 t218]) (ok := fun _ => True) (okp := fun _ => True) ?hr ?hp (fun _ hk => hk) trivial (Below.refl _ _) (Nat.le_refl _) (by simp) ?_; (case hd => rfl); (case hg => rfl); (case hr => first | (go_simp; done) | (go_simp; rfl)); (case hp => exact (Reps.c3 (show Kd.M k23 _ _ _ (⟨t213, t214, t215⟩ : S23) [.int .u8 t213, .string t214, .int .i64 t215] from (k23_mkM _ _ _ (⟨t213, t214, t215⟩ : S23) )) (Reps.c3 (show Kd.M k23 _ _ _ (⟨t216, t217, t218⟩ : S23) [.int .u8 t216, .string t217, .int .i64 t218] from (k23_mkM _ _ _ (⟨t216, t217, t218⟩ : S23) )) (Reps.none _ _)))); intro v220 w26 ho27 hb hg_ hnew_; clear hg_ hnew_; (first | rw [← Ny219.out] at ho27 | (simp only [Int.reduceToNat] at ho27; rw [← Ny219.out] at ho27)); have n0_ := Aside0.mk (Kd.R_elder' (by (with_reducible repeat (first | apply Kd.R_alloc | apply Kd.R_drewN | apply Kd.R_drew)); exact HO211.out) (Kd.R_base ho27) hb); have n1_ := Aside0.mk (Kd.R_lower (Kd.R_new' ho27 (Kd.R_lt (by (with_reducible repeat (first | apply Kd.R_alloc | apply Kd.R_drewN | apply Kd.R_drew)); exact HO211.out))) (below_size (by repeat (first | (with_reducible first | exact HB.out | apply below_alloc | apply pw_below_drewN | apply below_drew1) | exact HB.out)))); have n2_ := Aside0.mk (below_step (by repeat (first | (with_reducible first | exact HB.out | apply below_alloc | apply pw_below_drewN | apply below_drew1) | exact HB.out)) hb); clear HO211; clear HB; have HO211 := n0_; have HO221 := n1_; have HB := n2_; clear n0_ n1_ n2_; clear hb ho27; obtain ⟨Ao28, co28, eo28⟩ := Kd.R_slice HO221.out; subst eo28) | (go_at_call 17; (with_reducible refine (quoinlaw15_is.calls k (⟨#[106, 32, 49, 102]⟩ : ByteArray) _ _ y219 t222 _ ?side1 ?side2 ?side3 A12.out).mono ?_); (case side1 => repeat (first | exact (Kd.R_reads' HO221.out).2.2 | (with_reducible refine Kd.C_alloc ?_ _) | (with_reducible refine Kd.C_drewN ?_ _) | (with_reducible refine Kd.C_drew ?_))); (case side2 => exact (Kd.R_reads' HO221.out).2.1); (case side3 => exact HE_.out.below (by repeat (first | (with_reducible first | exact HB.out | apply below_alloc | apply pw_below_drewN | apply below_drew1) | exact HB.out))); rintro e w29 ⟨rfl, hb⟩; have n0_ := Aside0.mk (Kd.R_below (by (with_reducible repeat (first | apply Kd.R_alloc | apply Kd.R_drewN | apply Kd.R_drew)); exact HO211.out) hb); have n1_ := Aside0.mk (Kd.R_below (by (with_reducible repeat (first | apply Kd.R_alloc | apply Kd.R_drewN | apply Kd.R_drew)); exact HO221.out) hb); have n2_ := Aside0.mk (below_step (by repeat (first | (with_reducible first | exact HB.out | apply below_alloc | apply pw_below_drewN | apply below_drew1) | exact HB.out)) hb); clear HO211; clear HO221; clear HB; have HO211 := n0_; have HO221 := n1_; have HB := n2_; clear n0_ n1_ n2_; (try clear hb); (try clear hb2); (try clear hk); (try clear hi)))
  go_ret
  exact ⟨by first | rfl | (simp [errW_none, errW_some] <;> rfl) | (simp [*, errW_none, errW_some] <;> rfl), by repeat (first | (with_reducible first | exact HB.out | apply below_alloc | apply pw_below_drewN | apply below_drew1) | exact HB.out)⟩
 ·
  replace c9 := Bool.eq_false_iff.mpr c9
  subst c9
  have H1 : (some false) = some r := by rw [if_neg (show ¬ (false = true) by decide)] at H; exact H
  clear H
  have H := H1
  clear H1
  obtain rfl := Option.some.inj H
  go_enter Tryd.func15, Tryd.ntmps15
  go_wp2_with (first | ((with_reducible refine gate_callee (f := 18) rfl ?_); refine goesL_ (some 1) rfl rfl Tryd.func18 (by kernel_rfl) rfl #[.string (⟨#[97]⟩ : ByteArray)] rfl (by (try simp only [List.map_toArray, List.map_cons, List.map_nil]); first | done | rfl | (simp only [List.length_drop, List.length_take]; rfl)) ?_; (with_reducible refine (quoinlaw15_word.calls (⟨#[97]⟩ : ByteArray) t188 t189 t190 _ A1.out).mono ?_); rintro e w30 ⟨rfl, hb⟩; refine ⟨_, rfl, ?_⟩; have n0_ := Aside0.mk (below_step (by repeat (first | (with_reducible first | exact HB.out | apply below_alloc | apply pw_below_drewN | apply below_drew1) | exact HB.out)) hb); clear HB; have HB := n0_; clear n0_; (try clear hb); (try clear hb2); (try clear hk); (try clear hi)) | ((with_reducible refine gate_callee (f := 24) rfl ?_); refine goesL_ (some 2) rfl rfl Tryd.func24 (by kernel_rfl) rfl #[.string (⟨#[58]⟩ : ByteArray)] rfl (by (try simp only [List.map_toArray, List.map_cons, List.map_nil]); first | done | rfl | (simp only [List.length_drop, List.length_take]; rfl)) ?_; (with_reducible refine (quoinlaw15_mark.calls (⟨#[58]⟩ : ByteArray) t191 t192 t193 _ A2.out).mono ?_); rintro e w31 ⟨rfl, hb⟩; refine ⟨_, rfl, ?_⟩; have n0_ := Aside0.mk (below_step (by repeat (first | (with_reducible first | exact HB.out | apply below_alloc | apply pw_below_drewN | apply below_drew1) | exact HB.out)) hb); clear HB; have HB := n0_; clear n0_; (try clear hb); (try clear hb2); (try clear hk); (try clear hi)) | ((with_reducible refine gate_callee (f := 18) rfl ?_); refine goesL_ (some 3) rfl rfl Tryd.func18 (by kernel_rfl) rfl #[.string (⟨#[108, 105]⟩ : ByteArray)] rfl (by (try simp only [List.map_toArray, List.map_cons, List.map_nil]); first | done | rfl | (simp only [List.length_drop, List.length_take]; rfl)) ?_; (with_reducible refine (quoinlaw15_word.calls (⟨#[108, 105]⟩ : ByteArray) t194 t195 t196 _ A3.out).mono ?_); rintro e w32 ⟨rfl, hb⟩; refine ⟨_, rfl, ?_⟩; have n0_ := Aside0.mk (below_step (by repeat (first | (with_reducible first | exact HB.out | apply below_alloc | apply pw_below_drewN | apply below_drew1) | exact HB.out)) hb); clear HB; have HB := n0_; clear n0_; (try clear hb); (try clear hb2); (try clear hk); (try clear hi)) | ((with_reducible refine gate_callee (f := 18) rfl ?_); refine goesL_ (some 4) rfl rfl Tryd.func18 (by kernel_rfl) rfl #[.string (⟨#[116, 48]⟩ : ByteArray)] rfl (by (try simp only [List.map_toArray, List.map_cons, List.map_nil]); first | done | rfl | (simp only [List.length_drop, List.length_take]; rfl)) ?_; (with_reducible refine (quoinlaw15_word.calls (⟨#[116, 48]⟩ : ByteArray) t197 t198 t199 _ A4.out).mono ?_); rintro e w33 ⟨rfl, hb⟩; refine ⟨_, rfl, ?_⟩; have n0_ := Aside0.mk (below_step (by repeat (first | (with_reducible first | exact HB.out | apply below_alloc | apply pw_below_drewN | apply below_drew1) | exact HB.out)) hb); clear HB; have HB := n0_; clear n0_; (try clear hb); (try clear hb2); (try clear hk); (try clear hi)) | ((with_reducible refine gate_callee (f := 24) rfl ?_); refine goesL_ (some 5) rfl rfl Tryd.func24 (by kernel_rfl) rfl #[.string (⟨#[44]⟩ : ByteArray)] rfl (by (try simp only [List.map_toArray, List.map_cons, List.map_nil]); first | done | rfl | (simp only [List.length_drop, List.length_take]; rfl)) ?_; (with_reducible refine (quoinlaw15_mark.calls (⟨#[44]⟩ : ByteArray) t200 t201 t202 _ A5.out).mono ?_); rintro e w34 ⟨rfl, hb⟩; refine ⟨_, rfl, ?_⟩; have n0_ := Aside0.mk (below_step (by repeat (first | (with_reducible first | exact HB.out | apply below_alloc | apply pw_below_drewN | apply below_drew1) | exact HB.out)) hb); clear HB; have HB := n0_; clear n0_; (try clear hb); (try clear hb2); (try clear hk); (try clear hi)) | ((with_reducible refine gate_callee (f := 24) rfl ?_); refine goesL_ (some 6) rfl rfl Tryd.func24 (by kernel_rfl) rfl #[.string (⟨#[45]⟩ : ByteArray)] rfl (by (try simp only [List.map_toArray, List.map_cons, List.map_nil]); first | done | rfl | (simp only [List.length_drop, List.length_take]; rfl)) ?_; (with_reducible refine (quoinlaw15_mark.calls (⟨#[45]⟩ : ByteArray) t203 t204 t205 _ A6.out).mono ?_); rintro e w35 ⟨rfl, hb⟩; refine ⟨_, rfl, ?_⟩; have n0_ := Aside0.mk (below_step (by repeat (first | (with_reducible first | exact HB.out | apply below_alloc | apply pw_below_drewN | apply below_drew1) | exact HB.out)) hb); clear HB; have HB := n0_; clear n0_; (try clear hb); (try clear hb2); (try clear hk); (try clear hi)) | ((with_reducible refine gate_callee (f := 19) rfl ?_); refine goesL_ (some 7) rfl rfl Tryd.func19 (by kernel_rfl) rfl #[.int .i64 16] rfl (by (try simp only [List.map_toArray, List.map_cons, List.map_nil]); first | done | rfl | (simp only [List.length_drop, List.length_take]; rfl)) ?_; (with_reducible refine (quoinlaw15_number.calls 16 t206 t207 t208 _ A7.out).mono ?_); rintro e w36 ⟨rfl, hb⟩; refine ⟨_, rfl, ?_⟩; have n0_ := Aside0.mk (below_step (by repeat (first | (with_reducible first | exact HB.out | apply below_alloc | apply pw_below_drewN | apply below_drew1) | exact HB.out)) hb); clear HB; have HB := n0_; clear n0_; (try clear hb); (try clear hb2); (try clear hk); (try clear hi)) | ((with_reducible refine gate_dst (N := 8) rfl ?_); (try (refine gate_guard (by rfl) ?_; dsimp only)); refine Kd.R_lit k23 _ 23 ?hg (N := 8) ?hd (xs := ([(⟨t188, t189, t190⟩ : S23), (⟨t191, t192, t193⟩ : S23), (⟨t194, t195, t196⟩ : S23), (⟨t197, t198, t199⟩ : S23), (⟨t200, t201, t202⟩ : S23), (⟨t203, t204, t205⟩ : S23), (⟨t206, t207, t208⟩ : S23)] : List (S23))) (inner := [.int .u8 t188, .string t189, .int .i64 t190, .int .u8 t191, .string t192, .int .i64 t193, .int .u8 t194, .string t195, .int .i64 t196, .int .u8 t197, .string t198, .int .i64 t199, .int .u8 t200, .string t201, .int .i64 t202, .int .u8 t203, .string t204, .int .i64 t205, .int .u8 t206, .string t207, .int .i64 t208]) (ok := fun _ => True) (okp := fun _ => True) ?hr ?hp (fun _ hk => hk) trivial (Below.refl _ _) (Nat.le_refl _) (by simp) ?_; (case hd => rfl); (case hg => rfl); (case hr => first | (go_simp; done) | (go_simp; rfl)); (case hp => exact (Reps.c3 (show Kd.M k23 _ _ _ (⟨t188, t189, t190⟩ : S23) [.int .u8 t188, .string t189, .int .i64 t190] from (k23_mkM _ _ _ (⟨t188, t189, t190⟩ : S23) )) (Reps.c3 (show Kd.M k23 _ _ _ (⟨t191, t192, t193⟩ : S23) [.int .u8 t191, .string t192, .int .i64 t193] from (k23_mkM _ _ _ (⟨t191, t192, t193⟩ : S23) )) (Reps.c3 (show Kd.M k23 _ _ _ (⟨t194, t195, t196⟩ : S23) [.int .u8 t194, .string t195, .int .i64 t196] from (k23_mkM _ _ _ (⟨t194, t195, t196⟩ : S23) )) (Reps.c3 (show Kd.M k23 _ _ _ (⟨t197, t198, t199⟩ : S23) [.int .u8 t197, .string t198, .int .i64 t199] from (k23_mkM _ _ _ (⟨t197, t198, t199⟩ : S23) )) (Reps.c3 (show Kd.M k23 _ _ _ (⟨t200, t201, t202⟩ : S23) [.int .u8 t200, .string t201, .int .i64 t202] from (k23_mkM _ _ _ (⟨t200, t201, t202⟩ : S23) )) (Reps.c3 (show Kd.M k23 _ _ _ (⟨t203, t204, t205⟩ : S23) [.int .u8 t203, .string t204, .int .i64 t205] from (k23_mkM _ _ _ (⟨t203, t204, t205⟩ : S23) )) (Reps.c3 (show Kd.M k23 _ _ _ (⟨t206, t207, t208⟩ : S23) [.int .u8 t206, .string t207, .int .i64 t208] from (k23_mkM _ _ _ (⟨t206, t207, t208⟩ : S23) )) (Reps.none _ _))))))))); intro v210 w37 ho38 hb hg_ hnew_; clear hg_ hnew_; (first | rw [← Ny209.out] at ho38 | (simp only [Int.reduceToNat] at ho38; rw [← Ny209.out] at ho38)); have n0_ := Aside0.mk (Kd.R_lower ho38 (below_size (by repeat (first | (with_reducible first | exact HB.out | apply below_alloc | apply pw_below_drewN | apply below_drew1) | exact HB.out)))); have n1_ := Aside0.mk (below_step (by repeat (first | (with_reducible first | exact HB.out | apply below_alloc | apply pw_below_drewN | apply below_drew1) | exact HB.out)) hb); clear HB; have HO211 := n0_; have HB := n1_; clear n0_ n1_; clear hb ho38; obtain ⟨Ao39, co39, eo39⟩ := Kd.R_slice HO211.out; subst eo39) | ((with_reducible refine gate_callee (f := 17) rfl ?_); refine goesL_ (some 9) rfl rfl Tryd.func17 (by kernel_rfl) rfl #[.string (⟨#[97, 58, 32, 108, 105, 32, 116, 48, 44, 32, 45, 48, 120, 49, 48, 32, 35, 32, 120]⟩ : ByteArray), .slice Ao39 y209.length co39] rfl (by (try simp only [List.map_toArray, List.map_cons, List.map_nil]); first | done | rfl | (simp only [List.length_drop, List.length_take]; rfl)) ?_; (with_reducible refine (quoinlaw15_is.calls k (⟨#[97, 58, 32, 108, 105, 32, 116, 48, 44, 32, 45, 48, 120, 49, 48, 32, 35, 32, 120]⟩ : ByteArray) _ _ y209 false _ ?side1 ?side2 ?side3 A8.out).mono ?_); (case side1 => repeat (first | exact (Kd.R_reads' HO211.out).2.2 | (with_reducible refine Kd.C_alloc ?_ _) | (with_reducible refine Kd.C_drewN ?_ _) | (with_reducible refine Kd.C_drew ?_))); (case side2 => exact (Kd.R_reads' HO211.out).2.1); (case side3 => exact HE_.out.below (by repeat (first | (with_reducible first | exact HB.out | apply below_alloc | apply pw_below_drewN | apply below_drew1) | exact HB.out))); rintro e w40 ⟨rfl, hb⟩; refine ⟨_, rfl, ?_⟩; have n0_ := Aside0.mk (Kd.R_below (by (with_reducible repeat (first | apply Kd.R_alloc | apply Kd.R_drewN | apply Kd.R_drew)); exact HO211.out) hb); have n1_ := Aside0.mk (below_step (by repeat (first | (with_reducible first | exact HB.out | apply below_alloc | apply pw_below_drewN | apply below_drew1) | exact HB.out)) hb); clear HO211; clear HB; have HO211 := n0_; have HB := n1_; clear n0_ n1_; (try clear hb); (try clear hb2); (try clear hk); (try clear hi)))
  go_ret
  exact ⟨by first | rfl | (simp [errW_none, errW_some] <;> rfl) | (simp [*, errW_none, errW_some] <;> rfl), by repeat (first | (with_reducible first | exact HB.out | apply below_alloc | apply pw_below_drewN | apply below_drew1) | exact HB.out)⟩

end Go.Proofs.YtajnkmandhomlaaDoor.P
