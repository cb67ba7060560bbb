/- lex: what its functions do, walked step by step. -/
import Derived.Test.YtgihgmniijhfoaaDoorZLexW0
import Derived.Test.YtgihgmniijhfoaaDoorProg
import Derived.Below
import Derived.Deep.Draws
import Derived.Deep.AppendLies
import Derived.Maps.AppendAt
import Derived.OwnWalk
import Derived.Laws.BytesArg
import Derived.Laws.MakeOwn
import Derived.Laws.OwnMore
import Derived.Deep.OwnRows
import Derived.Tactics
import Derived.Lib.ConvBytes
import Derived.Laws.Slices
import Derived.WalkKit
import Derived.KernelRfl
import Derived.RowKit3
import Derived.Deep.LoopGhost
import Derived.Deep.QuietTactic
import Derived.BigQuiet
import Derived.WideLaws
import Derived.Deep.DeepCutAuto
import Derived.Deep.CutBlock
import Derived.Deep.RegionHeld3
import Derived.Laws.Rows
import Derived.Lib.AppendStr
import Derived.ArgAppend
import Derived.Laws.IdiomCopy
import Derived.OrdersHeld
import Derived.Laws.BitsLemmas
import Derived.RowKit
import Derived.Lib.AppendIntMem
import Derived.Test.YtgihgmniijhfoaaDoorWWords
import Derived.Test.YtgihgmniijhfoaaDoorWLast
import Derived.Test.YtgihgmniijhfoaaDoorWTab
import Derived.Test.YtgihgmniijhfoaaDoorWFour
import Derived.Test.YtgihgmniijhfoaaDoorWQPut
import Derived.Test.YtgihgmniijhfoaaDoorWApart
import Derived.Test.YtgihgmniijhfoaaDoorWArr
import Derived.Test.YtgihgmniijhfoaaDoorWZeros
import Derived.Test.YtgihgmniijhfoaaDoorWFoot
import Derived.Test.YtgihgmniijhfoaaDoorWKept
import Derived.Test.YtgihgmniijhfoaaDoorWShare
import Derived.Test.YtgihgmniijhfoaaDoorWN
import Derived.Test.YtgihgmniijhfoaaDoorWFootNe
import Derived.Test.YtgihgmniijhfoaaDoorWAt
import Derived.Test.YtgihgmniijhfoaaDoorWEqStruct
import Derived.Test.YtgihgmniijhfoaaDoorWRepsOne
import Derived.Test.YtgihgmniijhfoaaDoorWInv
import Derived.Test.YtgihgmniijhfoaaDoorWInvWords
import Derived.Test.YtgihgmniijhfoaaDoorWGuard
import Derived.Test.YtgihgmniijhfoaaDoorWNEv
import Derived.Test.YtgihgmniijhfoaaDoorWMore
import Derived.Test.YtgihgmniijhfoaaDoorZLexW1
import Derived.Test.YtgihgmniijhfoaaDoorShelf
import Derived.Test.YtgihgmniijhfoaaDoorZLexW2
import Derived.Test.YtgihgmniijhfoaaDoorZLexW3
import Derived.Lib.AtoiAllMem
import Derived.Laws.Strings3
import Derived.Laws.Closers25
import Derived.Laws.Closers25b
import Derived.BigCall
import Derived.BigGuard
import Derived.Test.YtgihgmniijhfoaaDoorZLexW5
import Derived.Test.YtgihgmniijhfoaaDoorZLexW4
import Derived.Test.YtgihgmniijhfoaaDoorZLexW6
import Derived.Test.YtgihgmniijhfoaaDoorZLexW7
namespace Go.Proofs.YtgihgmniijhfoaaDoor.LexW
open Go.RowKit Go.Proofs.YtgihgmniijhfoaaDoor.LexP Go.Proofs.YtgihgmniijhfoaaDoorW.PrintWords Go.Proofs.YtgihgmniijhfoaaDoorW.PrintLast Go.Proofs.YtgihgmniijhfoaaDoorW.PrintMore Go.Proofs.YtgihgmniijhfoaaDoor.Lex
set_option linter.unusedVariables false
set_option linter.unusedSimpArgs false
theorem slice_to (s : ByteArray) (h : Int) (h0 : 0 ≤ h) (h1 : h ≤ (s.size : Int)) {W : World} : (Instr.slice 9 (.string s) none (some (.int .i64 h)) none).run Tryd.prog W = .ok (.string (s.extract 0 h.toNat)) W := by
  go_simp
theorem box3 {w : World} {g : Nat} {a b c : Value} (h : w.heap[g]? = some (.cells #[a, b, c] 41 (0, 0))) : w.cell? ⟨g, 0, none⟩ = some a ∧ w.cell? ⟨g, 1, none⟩ = some b ∧ w.cell? ⟨g, 2, none⟩ = some c ∧ w.frozen? ⟨g, 0, none⟩ = false ∧ w.frozen? ⟨g, 1, none⟩ = false ∧ w.frozen? ⟨g, 2, none⟩ = false :=
  ⟨blk_cell h 0, blk_cell h 1, blk_cell h 2, blk_frozen h 0, blk_frozen h 1, blk_frozen h 2⟩
theorem size23 : (Tryd.prog.info? 41).map (·.size) = some 3 := by kernel_rfl
def tokV (x : Tok) : Value := .agg #[.int .u8 (x.k : Int), .string ⟨x.t.toArray⟩, .int .i64 x.n]
theorem ret_tok {x : Tok × Nat} {k : Int} {t : ByteArray} {n m : Int} (hk : (x.1.k : Int) = k) (ht : (⟨x.1.t.toArray⟩ : ByteArray) = t) (hn : x.1.n = n) (hm : (x.2 : Int) = m) :
    Ending.returned (.tuple #[.agg #[.int .u8 k, .string t, .int .i64 n], .int .i64 m]) = Ending.returned (.tuple #[tokV x.1, .int .i64 (x.2 : Int)]) := by
  subst hk ht hn hm
  rfl
theorem mk_data (s : ByteArray) : (⟨s.data.toList.toArray⟩ : ByteArray) = s := by cases s; rfl
theorem mk_of {s : ByteArray} {l : List UInt8} (h : s.data.toList = l) : (⟨l.toArray⟩ : ByteArray) = s := by rw [← h, mk_data]
set_option maxHeartbeats 4000000 in
set_option maxRecDepth 100000 in
theorem next_calls (s : ByteArray) (hs : s.size ≤ 1000000000) (h0 : 0 < s.size) (w : World) (hE : LexE w) : Calls Tryd.prog 35 #[.string s] w fun e w' =>
    e = .returned (.tuple #[tokV (nextL s.data.toList).1, .int .i64 ((nextL s.data.toList).2 : Nat)]) ∧ Below w.heap.size w w' := by
  have HE := Aside0.mk hE
  clear hE
  have hsd := size_data s
  have p0 : (0 : Int) < (s.size : Int) := by omega
  have p1 : (1 : Int) ≤ (s.size : Int) := by omega
  obtain ⟨r, hr⟩ : ∃ r, r = s.data.toList.drop 1 := ⟨_, rfl⟩
  have hl : s.data.toList = s[0] :: r := by rw [hr, ← drop_at s 0 h0]; rfl
  have hrs : (s.extract 1 s.size).data.toList = r := by rw [extract_list, List.take_of_length_le (by omega), hr]
  have hrz : (s.extract 1 s.size).size = s.size - 1 := by rw [← size_data, hrs, hr, List.length_drop]; omega
  have hs1 : (s.extract 0 1).data.toList = [s[0]] := by rw [extract_list, hl]; rfl
  have hrl : r.length = s.size - 1 := by rw [hr, List.length_drop]; omega
  rw [hl]
  have cM := fun w => mark_calls s[0] w
  have cS := fun w => start_calls s[0] w
  generalize hc : s[0] = c at *
  have hu23 := Tryd.underlying41
  by_cases h1 : markC c = true
  · rw [h1] at cM
    have hN : nextL (c :: r) = (⟨4, [c], 0⟩, 1) := by unfold nextL; exact if_pos h1
    have HN := Aside0.mk hN
    have HS1 := Aside0.mk hs1
    clear hN h1 cS hl hrs hrz hs1 hrl hr
    go_enter Tryd.func35, Tryd.ntmps35
    go_wp2_with (first | ((with_reducible refine gate_dst (N := 2) rfl ?_); refine box_event ?hg (N := 2) ?hd (cs := #[.int .u8 0, .string (⟨#[]⟩ : ByteArray), .int .i64 0]) (t := 41) ?hr ?_; (case hd => rfl); (case hg => rfl); (case hr => first | (go_simp; done) | (go_simp; rfl)); intro g hg w2 hbox hb; have HB : Aside0 (Below w.heap.size w w2) := ⟨hb⟩; have BK := Aside0.mk hbox; have GE : Aside0 (w.heap.size ≤ g) := ⟨by rw [hg]; exact Nat.le_refl _⟩; replace HE := Aside0.mk (HE.out.below hb); obtain ⟨c0_, c1_, c2_, f0_, f1_, f2_⟩ := box3 BK.out; clear hb hbox hg) | (go_at_call 45; refine (cM _).mono ?_; rintro e w_ ⟨rfl, hb⟩; replace HB := Aside0.mk (below_step HB.out hb); replace BK := Aside0.mk (blk_below BK.out hb); replace HE := Aside0.mk (HE.out.below hb); clear c0_ c1_ c2_ f0_ f1_ f2_; obtain ⟨c0_, c1_, c2_, f0_, f1_, f2_⟩ := box3 BK.out; clear hb))
    exact bodyPost_ret (results_ct rfl _ _ g 41 #[.int .u8 4, .string (s.extract 0 1), .int .i64 0] (0, 0) _ rfl (blk_put (cs' := #[.int .u8 4, .string (s.extract 0 1), .int .i64 0]) (blk_put (cs' := #[.int .u8 4, .string (s.extract 0 1), .int .i64 0]) (blk_put (cs' := #[.int .u8 4, .string (⟨#[]⟩ : ByteArray), .int .i64 0]) BK.out 0 _ rfl) 1 _ rfl) 2 _ rfl) Tryd.underlying41 rfl size23) rfl ⟨by rw [HN.out]; exact ret_tok (x := (⟨4, [c], 0⟩, 1)) rfl (mk_of HS1.out) rfl rfl, below_set (below_set (below_set HB.out GE.out) GE.out) GE.out⟩
  have h1 : markC c = false := by simpa using h1
  rw [h1] at cM
  by_cases h2 : c = 34
  · have t34 := u8_is h2 (n := 34) rfl
    have cQ := fun w => quoted_calls (s.extract 1 s.size) (by omega) w
    rw [hrs] at cQ
    have hN : nextL (c :: r) = if (quotedL r 0 []).2 = 0 then noTok else (⟨3, (quotedL r 0 []).1, 0⟩, (quotedL r 0 []).2 + 1) := by unfold nextL; exact (if_neg (by simp [h1])).trans (if_pos h2)
    have hqb := quoted_bound r 0 []
    have hn1 : (quotedL r 0 []).2 ≤ s.size := by
      by_cases hq : (quotedL r 0 []).2 = 0
      · omega
      · have := (hqb hq).2.1; omega
    clear hqb
    generalize quotedL r 0 [] = q at cQ hN hn1
    obtain ⟨qt, qn⟩ := q
    simp only at cQ hN hn1
    clear h1 cS hl hrs hrz hs1 hrl hr
    by_cases hq : qn = 0
    · have e0 : ((qn : Int) == 0) = true := beq_iff_eq.2 (by omega)
      rw [if_pos hq] at hN
      have HN := Aside0.mk hN
      clear hN hq h2
      go_enter Tryd.func35, Tryd.ntmps35
      go_wp2_with (first | ((with_reducible refine gate_dst (N := 2) rfl ?_); refine box_event ?hg (N := 2) ?hd (cs := #[.int .u8 0, .string (⟨#[]⟩ : ByteArray), .int .i64 0]) (t := 41) ?hr ?_; (case hd => rfl); (case hg => rfl); (case hr => first | (go_simp; done) | (go_simp; rfl)); intro g hg w2 hbox hb; have HB : Aside0 (Below w.heap.size w w2) := ⟨hb⟩; have BK := Aside0.mk hbox; have GE : Aside0 (w.heap.size ≤ g) := ⟨by rw [hg]; exact Nat.le_refl _⟩; replace HE := Aside0.mk (HE.out.below hb); obtain ⟨c0_, c1_, c2_, f0_, f1_, f2_⟩ := box3 BK.out; clear hb hbox hg) | (go_at_call 45; refine (cM _).mono ?_; rintro e w_ ⟨rfl, hb⟩; replace HB := Aside0.mk (below_step HB.out hb); replace BK := Aside0.mk (blk_below BK.out hb); replace HE := Aside0.mk (HE.out.below hb); clear c0_ c1_ c2_ f0_ f1_ f2_; obtain ⟨c0_, c1_, c2_, f0_, f1_, f2_⟩ := box3 BK.out; clear hb) | (go_at_call 46; refine (cQ _).mono ?_; rintro e w_ ⟨rfl, hb⟩; replace HB := Aside0.mk (below_step HB.out hb); replace BK := Aside0.mk (blk_below BK.out hb); replace HE := Aside0.mk (HE.out.below hb); clear c0_ c1_ c2_ f0_ f1_ f2_; obtain ⟨c0_, c1_, c2_, f0_, f1_, f2_⟩ := box3 BK.out; clear hb))
      exact bodyPost_ret (results_ct rfl _ _ g 41 #[.int .u8 0, .string (⟨#[]⟩ : ByteArray), .int .i64 0] (0, 0) _ rfl (blk_put (cs' := #[.int .u8 0, .string (⟨#[]⟩ : ByteArray), .int .i64 0]) (blk_put (cs' := #[.int .u8 0, .string (⟨#[]⟩ : ByteArray), .int .i64 0]) (blk_put (cs' := #[.int .u8 0, .string (⟨#[]⟩ : ByteArray), .int .i64 0]) BK.out 0 _ rfl) 1 _ rfl) 2 _ rfl) Tryd.underlying41 rfl size23) rfl ⟨by rw [HN.out]; rfl, below_set (below_set (below_set HB.out GE.out) GE.out) GE.out⟩
    · have e0 : ((qn : Int) == 0) = false := beq_eq_false_iff_ne.2 (by omega)
      rw [if_neg hq] at hN
      have HN := Aside0.mk hN
      clear hN hq h2
      go_enter Tryd.func35, Tryd.ntmps35
      go_wp2_with (first | ((with_reducible refine gate_dst (N := 2) rfl ?_); refine box_event ?hg (N := 2) ?hd (cs := #[.int .u8 0, .string (⟨#[]⟩ : ByteArray), .int .i64 0]) (t := 41) ?hr ?_; (case hd => rfl); (case hg => rfl); (case hr => first | (go_simp; done) | (go_simp; rfl)); intro g hg w2 hbox hb; have HB : Aside0 (Below w.heap.size w w2) := ⟨hb⟩; have BK := Aside0.mk hbox; have GE : Aside0 (w.heap.size ≤ g) := ⟨by rw [hg]; exact Nat.le_refl _⟩; replace HE := Aside0.mk (HE.out.below hb); obtain ⟨c0_, c1_, c2_, f0_, f1_, f2_⟩ := box3 BK.out; clear hb hbox hg) | (go_at_call 45; refine (cM _).mono ?_; rintro e w_ ⟨rfl, hb⟩; replace HB := Aside0.mk (below_step HB.out hb); replace BK := Aside0.mk (blk_below BK.out hb); replace HE := Aside0.mk (HE.out.below hb); clear c0_ c1_ c2_ f0_ f1_ f2_; obtain ⟨c0_, c1_, c2_, f0_, f1_, f2_⟩ := box3 BK.out; clear hb) | (go_at_call 46; refine (cQ _).mono ?_; rintro e w_ ⟨rfl, hb⟩; replace HB := Aside0.mk (below_step HB.out hb); replace BK := Aside0.mk (blk_below BK.out hb); replace HE := Aside0.mk (HE.out.below hb); clear c0_ c1_ c2_ f0_ f1_ f2_; obtain ⟨c0_, c1_, c2_, f0_, f1_, f2_⟩ := box3 BK.out; clear hb))
      exact bodyPost_ret (results_ct rfl _ _ g 41 #[.int .u8 3, .string (⟨qt.toArray⟩ : ByteArray), .int .i64 0] (0, 0) _ rfl (blk_put (cs' := #[.int .u8 3, .string (⟨qt.toArray⟩ : ByteArray), .int .i64 0]) (blk_put (cs' := #[.int .u8 3, .string (⟨qt.toArray⟩ : ByteArray), .int .i64 0]) (blk_put (cs' := #[.int .u8 3, .string (⟨#[]⟩ : ByteArray), .int .i64 0]) BK.out 0 _ rfl) 1 _ rfl) 2 _ rfl) Tryd.underlying41 rfl size23) rfl ⟨by rw [HN.out]; rfl, below_set (below_set (below_set HB.out GE.out) GE.out) GE.out⟩
  have t34 := u8_not h2 (n := 34) rfl
  by_cases h3 : startC c = true
  · rw [h3] at cS
    have cK := fun w => many_inside_calls (s.extract 1 s.size) (by omega) w
    rw [hrs] at cK
    have hN : nextL (c :: r) = if nameL ((c :: r).take (1 + many insideC r)) then (⟨1, (c :: r).take (1 + many insideC r), 0⟩, 1 + many insideC r) else noTok := by unfold nextL; exact (if_neg (by simp [h1])).trans ((if_neg h2).trans (if_pos h3))
    have hnle := many_le (p := insideC) r
    generalize many insideC r = n at cK hN hnle
    have hx : (s.extract 0 (1 + n)).data.toList = (c :: r).take (1 + n) := by rw [extract_list, hl]; rfl
    have hxz : (s.extract 0 (1 + n)).size ≤ 1000000000000 := by rw [← size_data, hx, List.length_take]; simp; omega
    have cN := fun w => name_calls (s.extract 0 (1 + n)) hxz w
    rw [hx] at cN
    have hsl : ∀ W : World, (Instr.slice 9 (.string s) none (some (.int .i64 (1 + (n : Int)))) none).run Tryd.prog W = .ok (.string (s.extract 0 (1 + n))) W := fun W => by
      rw [slice_to s (1 + (n : Int)) (by omega) (by omega)]
      rw [show (1 + (n : Int)).toNat = 1 + n by omega]
    have nle : (1 : Int) + (n : Int) ≤ (s.size : Int) := by omega
    have HX := Aside0.mk hx
    clear hx hxz hl hrs hrz hs1 hrl hr h1 h2 h3
    by_cases h4 : nameL ((c :: r).take (1 + n)) = true
    · rw [h4] at cN
      rw [if_pos h4] at hN
      have HN := Aside0.mk hN
      clear hN h4
      go_enter Tryd.func35, Tryd.ntmps35
      go_wp2_with (first | ((with_reducible refine gate_dst (N := 2) rfl ?_); refine box_event ?hg (N := 2) ?hd (cs := #[.int .u8 0, .string (⟨#[]⟩ : ByteArray), .int .i64 0]) (t := 41) ?hr ?_; (case hd => rfl); (case hg => rfl); (case hr => first | (go_simp; done) | (go_simp; rfl)); intro g hg w2 hbox hb; have HB : Aside0 (Below w.heap.size w w2) := ⟨hb⟩; have BK := Aside0.mk hbox; have GE : Aside0 (w.heap.size ≤ g) := ⟨by rw [hg]; exact Nat.le_refl _⟩; replace HE := Aside0.mk (HE.out.below hb); obtain ⟨c0_, c1_, c2_, f0_, f1_, f2_⟩ := box3 BK.out; clear hb hbox hg) | (go_at_call 45; refine (cM _).mono ?_; rintro e w_ ⟨rfl, hb⟩; replace HB := Aside0.mk (below_step HB.out hb); replace BK := Aside0.mk (blk_below BK.out hb); replace HE := Aside0.mk (HE.out.below hb); clear c0_ c1_ c2_ f0_ f1_ f2_; obtain ⟨c0_, c1_, c2_, f0_, f1_, f2_⟩ := box3 BK.out; clear hb) | (go_at_call 47; refine (cS _).mono ?_; rintro e w_ ⟨rfl, hb⟩; replace HB := Aside0.mk (below_step HB.out hb); replace BK := Aside0.mk (blk_below BK.out hb); replace HE := Aside0.mk (HE.out.below hb); clear c0_ c1_ c2_ f0_ f1_ f2_; obtain ⟨c0_, c1_, c2_, f0_, f1_, f2_⟩ := box3 BK.out; clear hb) | (go_at_call 48; refine (cK _).mono ?_; rintro e w_ ⟨rfl, hb⟩; replace HB := Aside0.mk (below_step HB.out hb); replace BK := Aside0.mk (blk_below BK.out hb); replace HE := Aside0.mk (HE.out.below hb); clear c0_ c1_ c2_ f0_ f1_ f2_; obtain ⟨c0_, c1_, c2_, f0_, f1_, f2_⟩ := box3 BK.out; clear hb) | (go_at_call 50; refine (cN _).mono ?_; rintro e w_ ⟨rfl, hb⟩; replace HB := Aside0.mk (below_step HB.out hb); replace BK := Aside0.mk (blk_below BK.out hb); replace HE := Aside0.mk (HE.out.below hb); clear c0_ c1_ c2_ f0_ f1_ f2_; obtain ⟨c0_, c1_, c2_, f0_, f1_, f2_⟩ := box3 BK.out; clear hb))
      exact bodyPost_ret (results_ct rfl _ _ g 41 #[.int .u8 1, .string (s.extract 0 (1 + n)), .int .i64 0] (0, 0) _ rfl (blk_put (cs' := #[.int .u8 1, .string (s.extract 0 (1 + n)), .int .i64 0]) (blk_put (cs' := #[.int .u8 1, .string (s.extract 0 (1 + n)), .int .i64 0]) (blk_put (cs' := #[.int .u8 1, .string (⟨#[]⟩ : ByteArray), .int .i64 0]) BK.out 0 _ rfl) 1 _ rfl) 2 _ rfl) Tryd.underlying41 rfl size23) rfl ⟨by rw [HN.out]; exact ret_tok rfl (mk_of HX.out) rfl (by omega), below_set (below_set (below_set HB.out GE.out) GE.out) GE.out⟩
    · have h4 : nameL ((c :: r).take (1 + n)) = false := by simpa using h4
      rw [h4] at cN
      rw [h4, if_neg (by decide)] at hN
      have HN := Aside0.mk hN
      clear hN h4
      go_enter Tryd.func35, Tryd.ntmps35
      go_wp2_with (first | ((with_reducible refine gate_dst (N := 2) rfl ?_); refine box_event ?hg (N := 2) ?hd (cs := #[.int .u8 0, .string (⟨#[]⟩ : ByteArray), .int .i64 0]) (t := 41) ?hr ?_; (case hd => rfl); (case hg => rfl); (case hr => first | (go_simp; done) | (go_simp; rfl)); intro g hg w2 hbox hb; have HB : Aside0 (Below w.heap.size w w2) := ⟨hb⟩; have BK := Aside0.mk hbox; have GE : Aside0 (w.heap.size ≤ g) := ⟨by rw [hg]; exact Nat.le_refl _⟩; replace HE := Aside0.mk (HE.out.below hb); obtain ⟨c0_, c1_, c2_, f0_, f1_, f2_⟩ := box3 BK.out; clear hb hbox hg) | (go_at_call 45; refine (cM _).mono ?_; rintro e w_ ⟨rfl, hb⟩; replace HB := Aside0.mk (below_step HB.out hb); replace BK := Aside0.mk (blk_below BK.out hb); replace HE := Aside0.mk (HE.out.below hb); clear c0_ c1_ c2_ f0_ f1_ f2_; obtain ⟨c0_, c1_, c2_, f0_, f1_, f2_⟩ := box3 BK.out; clear hb) | (go_at_call 47; refine (cS _).mono ?_; rintro e w_ ⟨rfl, hb⟩; replace HB := Aside0.mk (below_step HB.out hb); replace BK := Aside0.mk (blk_below BK.out hb); replace HE := Aside0.mk (HE.out.below hb); clear c0_ c1_ c2_ f0_ f1_ f2_; obtain ⟨c0_, c1_, c2_, f0_, f1_, f2_⟩ := box3 BK.out; clear hb) | (go_at_call 48; refine (cK _).mono ?_; rintro e w_ ⟨rfl, hb⟩; replace HB := Aside0.mk (below_step HB.out hb); replace BK := Aside0.mk (blk_below BK.out hb); replace HE := Aside0.mk (HE.out.below hb); clear c0_ c1_ c2_ f0_ f1_ f2_; obtain ⟨c0_, c1_, c2_, f0_, f1_, f2_⟩ := box3 BK.out; clear hb) | (go_at_call 50; refine (cN _).mono ?_; rintro e w_ ⟨rfl, hb⟩; replace HB := Aside0.mk (below_step HB.out hb); replace BK := Aside0.mk (blk_below BK.out hb); replace HE := Aside0.mk (HE.out.below hb); clear c0_ c1_ c2_ f0_ f1_ f2_; obtain ⟨c0_, c1_, c2_, f0_, f1_, f2_⟩ := box3 BK.out; clear hb))
      exact bodyPost_ret (results_ct rfl _ _ g 41 #[.int .u8 0, .string (⟨#[]⟩ : ByteArray), .int .i64 0] (0, 0) _ rfl (blk_put (cs' := #[.int .u8 0, .string (⟨#[]⟩ : ByteArray), .int .i64 0]) (blk_put (cs' := #[.int .u8 0, .string (⟨#[]⟩ : ByteArray), .int .i64 0]) (blk_put (cs' := #[.int .u8 0, .string (⟨#[]⟩ : ByteArray), .int .i64 0]) BK.out 0 _ rfl) 1 _ rfl) 2 _ rfl) Tryd.underlying41 rfl size23) rfl ⟨by rw [HN.out]; rfl, below_set (below_set (below_set HB.out GE.out) GE.out) GE.out⟩
  have h3 : startC c = false := by simpa using h3
  rw [h3] at cS
  have cK := fun w => many_inside_calls s (by omega) w
  rw [hl] at cK
  have hN : nextL (c :: r) = if localL ((c :: r).take (many insideC (c :: r))) then (⟨1, (c :: r).take (many insideC (c :: r)), 0⟩, many insideC (c :: r)) else if (numL (c :: r)).2 = 0 ∨ (numL (c :: r)).2 ≠ many insideC (c :: r) then noTok else (⟨2, [], (numL (c :: r)).1⟩, many insideC (c :: r)) := by unfold nextL; exact (if_neg (by simp [h1])).trans ((if_neg h2).trans (if_neg (by simp [h3])))
  have hnle := many_le (p := insideC) (c :: r)
  simp only [List.length_cons] at hnle
  generalize many insideC (c :: r) = n at cK hN hnle
  have hx : (s.extract 0 n).data.toList = (c :: r).take n := by rw [extract_list, hl]; rfl
  have hxz : (s.extract 0 n).size ≤ 1000000000000 := by rw [← size_data, hx, List.length_take]; simp; omega
  have cL := fun w => local_calls (s.extract 0 n) hxz w
  rw [hx] at cL
  have hsl : ∀ W : World, (Instr.slice 9 (.string s) none (some (.int .i64 (n : Int))) none).run Tryd.prog W = .ok (.string (s.extract 0 n)) W := fun W => by
    rw [slice_to s (n : Int) (by omega) (by omega)]
    rfl
  have nle : (n : Int) ≤ (s.size : Int) := by omega
  have cU := fun w hE => number_calls s hs w hE
  have hub := num_le (c :: r)
  rw [hl] at cU
  simp only [List.length_cons] at hub
  generalize numL (c :: r) = u at cU hN hub
  obtain ⟨uv, un⟩ := u
  simp only at cU hN hub
  have HX := Aside0.mk hx
  clear hx hxz hl hrs hrz hs1 hrl hr h1 h2 h3
  by_cases h4 : localL ((c :: r).take n) = true
  · rw [h4] at cL
    rw [if_pos h4] at hN
    have HN := Aside0.mk hN
    clear hN h4
    go_enter Tryd.func35, Tryd.ntmps35
    go_wp2_with (first | ((with_reducible refine gate_dst (N := 2) rfl ?_); refine box_event ?hg (N := 2) ?hd (cs := #[.int .u8 0, .string (⟨#[]⟩ : ByteArray), .int .i64 0]) (t := 41) ?hr ?_; (case hd => rfl); (case hg => rfl); (case hr => first | (go_simp; done) | (go_simp; rfl)); intro g hg w2 hbox hb; have HB : Aside0 (Below w.heap.size w w2) := ⟨hb⟩; have BK := Aside0.mk hbox; have GE : Aside0 (w.heap.size ≤ g) := ⟨by rw [hg]; exact Nat.le_refl _⟩; replace HE := Aside0.mk (HE.out.below hb); obtain ⟨c0_, c1_, c2_, f0_, f1_, f2_⟩ := box3 BK.out; clear hb hbox hg) | (go_at_call 45; refine (cM _).mono ?_; rintro e w_ ⟨rfl, hb⟩; replace HB := Aside0.mk (below_step HB.out hb); replace BK := Aside0.mk (blk_below BK.out hb); replace HE := Aside0.mk (HE.out.below hb); clear c0_ c1_ c2_ f0_ f1_ f2_; obtain ⟨c0_, c1_, c2_, f0_, f1_, f2_⟩ := box3 BK.out; clear hb) | (go_at_call 47; refine (cS _).mono ?_; rintro e w_ ⟨rfl, hb⟩; replace HB := Aside0.mk (below_step HB.out hb); replace BK := Aside0.mk (blk_below BK.out hb); replace HE := Aside0.mk (HE.out.below hb); clear c0_ c1_ c2_ f0_ f1_ f2_; obtain ⟨c0_, c1_, c2_, f0_, f1_, f2_⟩ := box3 BK.out; clear hb) | (go_at_call 48; refine (cK _).mono ?_; rintro e w_ ⟨rfl, hb⟩; replace HB := Aside0.mk (below_step HB.out hb); replace BK := Aside0.mk (blk_below BK.out hb); replace HE := Aside0.mk (HE.out.below hb); clear c0_ c1_ c2_ f0_ f1_ f2_; obtain ⟨c0_, c1_, c2_, f0_, f1_, f2_⟩ := box3 BK.out; clear hb) | (go_at_call 51; refine (cL _).mono ?_; rintro e w_ ⟨rfl, hb⟩; replace HB := Aside0.mk (below_step HB.out hb); replace BK := Aside0.mk (blk_below BK.out hb); replace HE := Aside0.mk (HE.out.below hb); clear c0_ c1_ c2_ f0_ f1_ f2_; obtain ⟨c0_, c1_, c2_, f0_, f1_, f2_⟩ := box3 BK.out; clear hb))
    exact bodyPost_ret (results_ct rfl _ _ g 41 #[.int .u8 1, .string (s.extract 0 n), .int .i64 0] (0, 0) _ rfl (blk_put (cs' := #[.int .u8 1, .string (s.extract 0 n), .int .i64 0]) (blk_put (cs' := #[.int .u8 1, .string (s.extract 0 n), .int .i64 0]) (blk_put (cs' := #[.int .u8 1, .string (⟨#[]⟩ : ByteArray), .int .i64 0]) BK.out 0 _ rfl) 1 _ rfl) 2 _ rfl) Tryd.underlying41 rfl size23) rfl ⟨by rw [HN.out]; exact ret_tok rfl (mk_of HX.out) rfl rfl, below_set (below_set (below_set HB.out GE.out) GE.out) GE.out⟩
  have h4 : localL ((c :: r).take n) = false := by simpa using h4
  rw [h4] at cL
  rw [h4, if_neg (by decide)] at hN
  clear h4
  by_cases h5 : un = 0
  · have e0 : ((un : Int) == 0) = true := beq_iff_eq.2 (by omega)
    rw [if_pos (.inl h5)] at hN
    have HN := Aside0.mk hN
    clear hN h5
    go_enter Tryd.func35, Tryd.ntmps35
    go_wp2_with (first | ((with_reducible refine gate_dst (N := 2) rfl ?_); refine box_event ?hg (N := 2) ?hd (cs := #[.int .u8 0, .string (⟨#[]⟩ : ByteArray), .int .i64 0]) (t := 41) ?hr ?_; (case hd => rfl); (case hg => rfl); (case hr => first | (go_simp; done) | (go_simp; rfl)); intro g hg w2 hbox hb; have HB : Aside0 (Below w.heap.size w w2) := ⟨hb⟩; have BK := Aside0.mk hbox; have GE : Aside0 (w.heap.size ≤ g) := ⟨by rw [hg]; exact Nat.le_refl _⟩; replace HE := Aside0.mk (HE.out.below hb); obtain ⟨c0_, c1_, c2_, f0_, f1_, f2_⟩ := box3 BK.out; clear hb hbox hg) | (go_at_call 45; refine (cM _).mono ?_; rintro e w_ ⟨rfl, hb⟩; replace HB := Aside0.mk (below_step HB.out hb); replace BK := Aside0.mk (blk_below BK.out hb); replace HE := Aside0.mk (HE.out.below hb); clear c0_ c1_ c2_ f0_ f1_ f2_; obtain ⟨c0_, c1_, c2_, f0_, f1_, f2_⟩ := box3 BK.out; clear hb) | (go_at_call 47; refine (cS _).mono ?_; rintro e w_ ⟨rfl, hb⟩; replace HB := Aside0.mk (below_step HB.out hb); replace BK := Aside0.mk (blk_below BK.out hb); replace HE := Aside0.mk (HE.out.below hb); clear c0_ c1_ c2_ f0_ f1_ f2_; obtain ⟨c0_, c1_, c2_, f0_, f1_, f2_⟩ := box3 BK.out; clear hb) | (go_at_call 48; refine (cK _).mono ?_; rintro e w_ ⟨rfl, hb⟩; replace HB := Aside0.mk (below_step HB.out hb); replace BK := Aside0.mk (blk_below BK.out hb); replace HE := Aside0.mk (HE.out.below hb); clear c0_ c1_ c2_ f0_ f1_ f2_; obtain ⟨c0_, c1_, c2_, f0_, f1_, f2_⟩ := box3 BK.out; clear hb) | (go_at_call 51; refine (cL _).mono ?_; rintro e w_ ⟨rfl, hb⟩; replace HB := Aside0.mk (below_step HB.out hb); replace BK := Aside0.mk (blk_below BK.out hb); replace HE := Aside0.mk (HE.out.below hb); clear c0_ c1_ c2_ f0_ f1_ f2_; obtain ⟨c0_, c1_, c2_, f0_, f1_, f2_⟩ := box3 BK.out; clear hb) | (go_at_call 52; refine (cU _ HE.out).mono ?_; rintro e w_ ⟨rfl, hb⟩; replace HB := Aside0.mk (below_step HB.out hb); replace BK := Aside0.mk (blk_below BK.out hb); replace HE := Aside0.mk (HE.out.below hb); clear c0_ c1_ c2_ f0_ f1_ f2_; obtain ⟨c0_, c1_, c2_, f0_, f1_, f2_⟩ := box3 BK.out; clear hb))
    exact bodyPost_ret (results_ct rfl _ _ g 41 #[.int .u8 0, .string (⟨#[]⟩ : ByteArray), .int .i64 0] (0, 0) _ rfl (blk_put (cs' := #[.int .u8 0, .string (⟨#[]⟩ : ByteArray), .int .i64 0]) (blk_put (cs' := #[.int .u8 0, .string (⟨#[]⟩ : ByteArray), .int .i64 0]) (blk_put (cs' := #[.int .u8 0, .string (⟨#[]⟩ : ByteArray), .int .i64 0]) BK.out 0 _ rfl) 1 _ rfl) 2 _ rfl) Tryd.underlying41 rfl size23) rfl ⟨by rw [HN.out]; rfl, below_set (below_set (below_set HB.out GE.out) GE.out) GE.out⟩
  have e0 : ((un : Int) == 0) = false := beq_eq_false_iff_ne.2 (by omega)
  by_cases h6 : un = n
  · have e1 : ((un : Int) != (n : Int)) = false := by rw [h6]; exact bne_self_eq_false _
    rw [if_neg (by omega)] at hN
    have HN := Aside0.mk hN
    clear hN h5 h6
    go_enter Tryd.func35, Tryd.ntmps35
    go_wp2_with (first | ((with_reducible refine gate_dst (N := 2) rfl ?_); refine box_event ?hg (N := 2) ?hd (cs := #[.int .u8 0, .string (⟨#[]⟩ : ByteArray), .int .i64 0]) (t := 41) ?hr ?_; (case hd => rfl); (case hg => rfl); (case hr => first | (go_simp; done) | (go_simp; rfl)); intro g hg w2 hbox hb; have HB : Aside0 (Below w.heap.size w w2) := ⟨hb⟩; have BK := Aside0.mk hbox; have GE : Aside0 (w.heap.size ≤ g) := ⟨by rw [hg]; exact Nat.le_refl _⟩; replace HE := Aside0.mk (HE.out.below hb); obtain ⟨c0_, c1_, c2_, f0_, f1_, f2_⟩ := box3 BK.out; clear hb hbox hg) | (go_at_call 45; refine (cM _).mono ?_; rintro e w_ ⟨rfl, hb⟩; replace HB := Aside0.mk (below_step HB.out hb); replace BK := Aside0.mk (blk_below BK.out hb); replace HE := Aside0.mk (HE.out.below hb); clear c0_ c1_ c2_ f0_ f1_ f2_; obtain ⟨c0_, c1_, c2_, f0_, f1_, f2_⟩ := box3 BK.out; clear hb) | (go_at_call 47; refine (cS _).mono ?_; rintro e w_ ⟨rfl, hb⟩; replace HB := Aside0.mk (below_step HB.out hb); replace BK := Aside0.mk (blk_below BK.out hb); replace HE := Aside0.mk (HE.out.below hb); clear c0_ c1_ c2_ f0_ f1_ f2_; obtain ⟨c0_, c1_, c2_, f0_, f1_, f2_⟩ := box3 BK.out; clear hb) | (go_at_call 48; refine (cK _).mono ?_; rintro e w_ ⟨rfl, hb⟩; replace HB := Aside0.mk (below_step HB.out hb); replace BK := Aside0.mk (blk_below BK.out hb); replace HE := Aside0.mk (HE.out.below hb); clear c0_ c1_ c2_ f0_ f1_ f2_; obtain ⟨c0_, c1_, c2_, f0_, f1_, f2_⟩ := box3 BK.out; clear hb) | (go_at_call 51; refine (cL _).mono ?_; rintro e w_ ⟨rfl, hb⟩; replace HB := Aside0.mk (below_step HB.out hb); replace BK := Aside0.mk (blk_below BK.out hb); replace HE := Aside0.mk (HE.out.below hb); clear c0_ c1_ c2_ f0_ f1_ f2_; obtain ⟨c0_, c1_, c2_, f0_, f1_, f2_⟩ := box3 BK.out; clear hb) | (go_at_call 52; refine (cU _ HE.out).mono ?_; rintro e w_ ⟨rfl, hb⟩; replace HB := Aside0.mk (below_step HB.out hb); replace BK := Aside0.mk (blk_below BK.out hb); replace HE := Aside0.mk (HE.out.below hb); clear c0_ c1_ c2_ f0_ f1_ f2_; obtain ⟨c0_, c1_, c2_, f0_, f1_, f2_⟩ := box3 BK.out; clear hb))
    exact bodyPost_ret (results_ct rfl _ _ g 41 #[.int .u8 2, .string (⟨#[]⟩ : ByteArray), .int .i64 uv] (0, 0) _ rfl (blk_put (cs' := #[.int .u8 2, .string (⟨#[]⟩ : ByteArray), .int .i64 uv]) (blk_put (cs' := #[.int .u8 2, .string (⟨#[]⟩ : ByteArray), .int .i64 0]) (blk_put (cs' := #[.int .u8 2, .string (⟨#[]⟩ : ByteArray), .int .i64 0]) BK.out 0 _ rfl) 1 _ rfl) 2 _ rfl) Tryd.underlying41 rfl size23) rfl ⟨by rw [HN.out]; rfl, below_set (below_set (below_set HB.out GE.out) GE.out) GE.out⟩
  · have e1 : ((un : Int) != (n : Int)) = true := bne_iff_ne.2 (by omega)
    rw [if_pos (.inr h6)] at hN
    have HN := Aside0.mk hN
    clear hN h5 h6
    go_enter Tryd.func35, Tryd.ntmps35
    go_wp2_with (first | ((with_reducible refine gate_dst (N := 2) rfl ?_); refine box_event ?hg (N := 2) ?hd (cs := #[.int .u8 0, .string (⟨#[]⟩ : ByteArray), .int .i64 0]) (t := 41) ?hr ?_; (case hd => rfl); (case hg => rfl); (case hr => first | (go_simp; done) | (go_simp; rfl)); intro g hg w2 hbox hb; have HB : Aside0 (Below w.heap.size w w2) := ⟨hb⟩; have BK := Aside0.mk hbox; have GE : Aside0 (w.heap.size ≤ g) := ⟨by rw [hg]; exact Nat.le_refl _⟩; replace HE := Aside0.mk (HE.out.below hb); obtain ⟨c0_, c1_, c2_, f0_, f1_, f2_⟩ := box3 BK.out; clear hb hbox hg) | (go_at_call 45; refine (cM _).mono ?_; rintro e w_ ⟨rfl, hb⟩; replace HB := Aside0.mk (below_step HB.out hb); replace BK := Aside0.mk (blk_below BK.out hb); replace HE := Aside0.mk (HE.out.below hb); clear c0_ c1_ c2_ f0_ f1_ f2_; obtain ⟨c0_, c1_, c2_, f0_, f1_, f2_⟩ := box3 BK.out; clear hb) | (go_at_call 47; refine (cS _).mono ?_; rintro e w_ ⟨rfl, hb⟩; replace HB := Aside0.mk (below_step HB.out hb); replace BK := Aside0.mk (blk_below BK.out hb); replace HE := Aside0.mk (HE.out.below hb); clear c0_ c1_ c2_ f0_ f1_ f2_; obtain ⟨c0_, c1_, c2_, f0_, f1_, f2_⟩ := box3 BK.out; clear hb) | (go_at_call 48; refine (cK _).mono ?_; rintro e w_ ⟨rfl, hb⟩; replace HB := Aside0.mk (below_step HB.out hb); replace BK := Aside0.mk (blk_below BK.out hb); replace HE := Aside0.mk (HE.out.below hb); clear c0_ c1_ c2_ f0_ f1_ f2_; obtain ⟨c0_, c1_, c2_, f0_, f1_, f2_⟩ := box3 BK.out; clear hb) | (go_at_call 51; refine (cL _).mono ?_; rintro e w_ ⟨rfl, hb⟩; replace HB := Aside0.mk (below_step HB.out hb); replace BK := Aside0.mk (blk_below BK.out hb); replace HE := Aside0.mk (HE.out.below hb); clear c0_ c1_ c2_ f0_ f1_ f2_; obtain ⟨c0_, c1_, c2_, f0_, f1_, f2_⟩ := box3 BK.out; clear hb) | (go_at_call 52; refine (cU _ HE.out).mono ?_; rintro e w_ ⟨rfl, hb⟩; replace HB := Aside0.mk (below_step HB.out hb); replace BK := Aside0.mk (blk_below BK.out hb); replace HE := Aside0.mk (HE.out.below hb); clear c0_ c1_ c2_ f0_ f1_ f2_; obtain ⟨c0_, c1_, c2_, f0_, f1_, f2_⟩ := box3 BK.out; clear hb))
    exact bodyPost_ret (results_ct rfl _ _ g 41 #[.int .u8 0, .string (⟨#[]⟩ : ByteArray), .int .i64 0] (0, 0) _ rfl (blk_put (cs' := #[.int .u8 0, .string (⟨#[]⟩ : ByteArray), .int .i64 0]) (blk_put (cs' := #[.int .u8 0, .string (⟨#[]⟩ : ByteArray), .int .i64 0]) (blk_put (cs' := #[.int .u8 0, .string (⟨#[]⟩ : ByteArray), .int .i64 0]) BK.out 0 _ rfl) 1 _ rfl) 2 _ rfl) Tryd.underlying41 rfl size23) rfl ⟨by rw [HN.out]; rfl, below_set (below_set (below_set HB.out GE.out) GE.out) GE.out⟩
end Go.Proofs.YtgihgmniijhfoaaDoor.LexW
