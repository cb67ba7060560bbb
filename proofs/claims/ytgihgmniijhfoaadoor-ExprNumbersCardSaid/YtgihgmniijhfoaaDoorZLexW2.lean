/- lex: what its functions do, walked step by step. -/
import Derived.Test.YtgihgmniijhfoaaDoorZLexW0
import Derived.Test.YtgihgmniijhfoaaDoorProg
import Derived.Below
import Derived.Deep.Draws
import Derived.Deep.AppendLies
import Derived.Maps.AppendAt
import Derived.OwnWalk
import Derived.Laws.BytesArg
import Derived.Laws.MakeOwn
import Derived.Laws.OwnMore
import Derived.Deep.OwnRows
import Derived.Tactics
import Derived.Lib.ConvBytes
import Derived.Laws.Slices
import Derived.WalkKit
import Derived.KernelRfl
import Derived.RowKit3
import Derived.Deep.LoopGhost
import Derived.Deep.QuietTactic
import Derived.BigQuiet
import Derived.WideLaws
import Derived.Deep.DeepCutAuto
import Derived.Deep.CutBlock
import Derived.Deep.RegionHeld3
import Derived.Laws.Rows
import Derived.Lib.AppendStr
import Derived.ArgAppend
import Derived.Laws.IdiomCopy
import Derived.OrdersHeld
import Derived.Laws.BitsLemmas
import Derived.RowKit
import Derived.Lib.AppendIntMem
import Derived.Test.YtgihgmniijhfoaaDoorWWords
import Derived.Test.YtgihgmniijhfoaaDoorWLast
import Derived.Test.YtgihgmniijhfoaaDoorWTab
import Derived.Test.YtgihgmniijhfoaaDoorWFour
import Derived.Test.YtgihgmniijhfoaaDoorWQPut
import Derived.Test.YtgihgmniijhfoaaDoorWApart
import Derived.Test.YtgihgmniijhfoaaDoorWArr
import Derived.Test.YtgihgmniijhfoaaDoorWZeros
import Derived.Test.YtgihgmniijhfoaaDoorWFoot
import Derived.Test.YtgihgmniijhfoaaDoorWKept
import Derived.Test.YtgihgmniijhfoaaDoorWShare
import Derived.Test.YtgihgmniijhfoaaDoorWN
import Derived.Test.YtgihgmniijhfoaaDoorWFootNe
import Derived.Test.YtgihgmniijhfoaaDoorWAt
import Derived.Test.YtgihgmniijhfoaaDoorWEqStruct
import Derived.Test.YtgihgmniijhfoaaDoorWRepsOne
import Derived.Test.YtgihgmniijhfoaaDoorWInv
import Derived.Test.YtgihgmniijhfoaaDoorWInvWords
import Derived.Test.YtgihgmniijhfoaaDoorWGuard
import Derived.Test.YtgihgmniijhfoaaDoorWNEv
import Derived.Test.YtgihgmniijhfoaaDoorWMore
import Derived.Test.YtgihgmniijhfoaaDoorZLexW1
import Derived.Test.YtgihgmniijhfoaaDoorShelf
namespace Go.Proofs.YtgihgmniijhfoaaDoor.LexW
open Go.RowKit Go.Proofs.YtgihgmniijhfoaaDoorW.PrintWords Go.Proofs.YtgihgmniijhfoaaDoorW.PrintLast Go.Proofs.YtgihgmniijhfoaaDoorW.PrintMore Go.Proofs.YtgihgmniijhfoaaDoor.Lex
set_option linter.unusedVariables false
set_option linter.unusedSimpArgs false
/-- A builder of the call's own that holds some bytes: p is its first cell. -/
def Bd (W : World) (B b : Nat) (p : Value) (bs : List UInt8) : Prop := ∃ v, W.heap[b]? = some (.cells #[p, v] 99 (0, 0)) ∧ W.ownsRow B 5 1 v (nm bs).length (nums .u8 (nm bs))
/-- What writing into a builder leaves as it was: all blocks but the builder's own, and rows of bytes that nobody has frozen. -/
def Kept (b : Nat) (W W' : World) : Prop := W.heap.size ≤ W'.heap.size ∧ ∀ q : Nat, q < W.heap.size → q ≠ b → (∀ cur, W.heap[q]? ≠ some (.cells cur 5 (0, 0))) → W'.heap[q]? = W.heap[q]?
theorem Kept.set (b j : Nat) (W : World) (u : Value) : Kept b W (W.setCell ⟨b, j, none⟩ u) := ⟨by simp [World.setCell], fun q _ hq _ => Below.heap_setCell W ⟨b, j, none⟩ u q hq⟩
theorem Kept.trans {b : Nat} {W W1 W2 : World} (h : Kept b W W1) (k : Kept b W1 W2) : Kept b W W2 :=
  ⟨Nat.le_trans h.1 k.1, fun q hq hb hn => by
    have e := h.2 q hq hb hn
    rw [k.2 q (Nat.lt_of_lt_of_le hq h.1) hb (by rw [e]; exact hn), e]⟩
theorem Kept.grown {b : Nat} {W W1 : World} {B n : Nat} {v : Value} {xs : List Value} (ho : W.ownsRow B 5 1 v n xs) (hg : W.grownBy W1 v.ownBlock) : Kept b W W1 := by
  refine ⟨hg.size, fun q hq _ hn => hg.block q hq fun e => ?_⟩
  rcases ho.2 with ⟨rfl, _⟩ | ⟨g, cap, cur, rfl, _, hc, _⟩
  · cases e
  · injection e with e
    subst e
    exact hn _ hc
theorem Kept.alloc (b : Nat) (W : World) (o : Obj) : Kept b W (W.alloc o) := ⟨by simp, fun q hq _ _ => Below.heap_alloc W o q hq⟩
theorem own_alloc {W : World} {B n : Nat} {v : Value} {xs : List Value} (ho : W.ownsRow B 5 1 v n xs) (o : Obj) : (W.alloc o).ownsRow B 5 1 v n xs := ho.alloc o
theorem own_ne {W : World} {B n g : Nat} {v : Value} {xs : List Value} (ho : W.ownsRow B 5 1 v n xs) {o : Obj} (hg : W.heap[g]? = some o) (hn : ∀ cur, o ≠ .cells cur 5 (0, 0)) : some g ≠ v.ownBlock := by
  intro e
  rcases ho.2 with ⟨rfl, _⟩ | ⟨g', cap, cur, rfl, _, hc, _⟩
  · cases e
  · injection e with e
    subst e
    rw [hg] at hc
    exact hn _ (Option.some.inj hc)
theorem own_slice {W : World} {B n : Nat} {v : Value} {xs : List Value} (ho : W.ownsRow B 5 1 v n xs) : ∃ A c, v = .slice A n c := by
  rcases ho.2 with ⟨rfl, rfl⟩ | ⟨g, cap, cur, rfl, _⟩
  · exact ⟨_, _, rfl⟩
  · exact ⟨_, _, rfl⟩
theorem own_set {W : World} {B n : Nat} {v : Value} {xs : List Value} (ho : W.ownsRow B 5 1 v n xs) {a : Addr} (ha : some a.block ≠ v.ownBlock) (u : Value) : (W.setCell a u).ownsRow B 5 1 v n xs := by
  refine ⟨ho.1, ho.2.imp id ?_⟩
  rintro ⟨g, cap, cur, rfl, h1, h2, h3⟩
  exact ⟨g, cap, cur, rfl, h1, (Below.heap_setCell W a u g (fun e => ha (by rw [← e]; rfl))).trans h2, h3⟩
theorem cc_used (b : Nat) (w : World) (h0 : w.cell? ⟨b, 0, none⟩ = some (.pointer (some ⟨b, 0, none⟩))) :
    Calls Tryd.prog 83 #[.pointer (some ⟨b, 0, none⟩)] w fun e w' => e = .returned (.tuple #[]) ∧ w' = w := Any.Builder_copyCheck_used { Tryd.lays105 with } Tryd.Builder_Extra_105.toX72 b w h0
theorem cc_fresh (b : Nat) (w : World) (h0 : w.cell? ⟨b, 0, none⟩ = some (.pointer none)) (hsh : w.shape? b = some (99, 2)) (hfz : w.frozen? ⟨b, 0, none⟩ = false) :
    Calls Tryd.prog 83 #[.pointer (some ⟨b, 0, none⟩)] w fun e w' => e = .returned (.tuple #[]) ∧ w' = w.setCell ⟨b, 0, none⟩ (.pointer (some ⟨b, 0, none⟩)) := Any.Builder_copyCheck_fresh { Tryd.lays105 with } Tryd.Builder_Extra_105.toX72 b w h0 hsh hfz
/-- Behind copyCheck: the builder is used. -/
theorem cc_any (B b : Nat) (p : Value) (bs : List UInt8) (W : World) (hp : p = .pointer none ∨ p = .pointer (some ⟨b, 0, none⟩)) (h : Bd W B b p bs) (hB : B ≤ b) :
    Calls Tryd.prog 83 #[.pointer (some ⟨b, 0, none⟩)] W fun e w' => e = .returned (.tuple #[]) ∧ Bd w' B b (.pointer (some ⟨b, 0, none⟩)) bs ∧ Kept b W w' ∧ Below B W w' := by
  obtain ⟨v, hb, ho⟩ := h
  rcases hp with rfl | rfl
  · refine (cc_fresh b W (blk_cell hb 0) (by simp [World.shape?, hb]) (blk_frozen hb 0)).mono ?_
    rintro e w' ⟨rfl, rfl⟩
    exact ⟨rfl, ⟨v, blk_put hb 0 _ rfl, own_set ho (own_ne ho hb (by simp)) _⟩, Kept.set b 0 W _, (Below.refl B W).setCell (p := ⟨b, 0, none⟩) hB _⟩
  · refine (cc_used b W (blk_cell hb 0)).mono ?_
    rintro e w' ⟨rfl, rfl⟩
    exact ⟨rfl, ⟨v, hb, ho⟩, ⟨Nat.le_refl _, fun _ _ _ _ => rfl⟩, Below.refl _ _⟩
set_option maxHeartbeats 1000000 in
set_option maxRecDepth 100000 in
theorem wb_calls (B b : Nat) (p : Value) (bs : List UInt8) (c : UInt8) (W : World) (hp : p = .pointer none ∨ p = .pointer (some ⟨b, 0, none⟩)) (h : Bd W B b p bs) (hB : B ≤ b) (hl : bs.length ≤ 1000000000000) :
    Calls Tryd.prog 67 #[.pointer (some ⟨b, 0, none⟩), .int .u8 (c.toNat : Int)] W fun e w' => e = .returned .nilIface ∧ Bd w' B b (.pointer (some ⟨b, 0, none⟩)) (bs ++ [c]) ∧ Kept b W w' ∧ Below B W w' := by
  have HH := Aside0.mk h
  have hln := nm_length bs
  have HL := Aside0.mk hln
  clear h hln
  have hsz : B ≤ W.heap.size := by
    obtain ⟨v, hb, _⟩ := HH.out
    exact Nat.le_trans hB (Nat.le_of_lt (blk_lt hb))
  go_enter Tryd.func67, Tryd.ntmps67
  go_wp2_with (go_at_call 83; refine (cc_any B b p bs _ hp HH.out hB).mono ?_)
  rintro e w1 ⟨rfl, h1, k1, b1⟩
  obtain ⟨v, hb, ho⟩ := h1
  have c1 := blk_cell hb 1
  have f1 := blk_frozen hb 1
  have c1 : w1.cell? ⟨b, 1, none⟩ = some v := c1
  have hs1 : B ≤ w1.heap.size := Nat.le_trans hsz b1.size
  have HO := Aside0.mk ho
  have K1 := Aside0.mk k1
  have B1 := Aside0.mk b1
  have HBK := Aside0.mk hb
  clear ho k1 b1 hb
  go_wp2_with ((with_reducible refine gate_builtin (b := .append) (xs := #[.tmp 11, .tmp 13]) rfl ?_); at_builtin; refine Kd.R_append (Kd.int .u8) (w0 := W) B rfl (.tmp 11) (.tmp 13) 86 5 (.int .u8 0) 1 rfl Tryd.underlying86 infoB rfl (by decide) (by omega) v (nm bs) (c.toNat : Int) [.int .u8 (c.toNat : Int)] (fun _ => True) (fun _ => False) rfl rfl ?aP (fun _ hk => hk.elim) (fun _ _ => trivial) ?aO ?aB ?aS ?aL ?_; (case aP => exact rfl); (case aO => exact Kd.R_of_own HO.out (fun _ _ => trivial)); (case aB => exact B1.out); (case aS => exact hs1); (case aL => rw [HL.out]; omega); intro v7 w7 ho7 hb7 hg7 _; obtain ⟨A7, q7, rfl⟩ := Kd.R_slice ho7; have bk7 := blk_grown HBK.out hg7 (own_ne HO.out HBK.out (by simp)); have c7 := blk_cell bk7 1; have f7 := blk_frozen bk7 1; have c7 : w7.cell? ⟨b, 1, none⟩ = some v := c7; have O7 := Aside0.mk ho7; have B7 := Aside0.mk hb7; have G7 := Aside0.mk hg7; have BK7 := Aside0.mk bk7; clear ho7 hb7 hg7 bk7)
  go_ret
  refine ⟨rfl, ⟨_, blk_put BK7.out 1 _ rfl, ?_⟩, ?_, ?_⟩
  · rw [nm_snoc]
    have := own_set (Kd.own_of_R O7.out) (a := ⟨b, 1, none⟩) (own_ne (Kd.own_of_R O7.out) BK7.out (by simp)) (.slice A7 (nm bs ++ [(c.toNat : Int)]).length q7)
    rw [show (nm bs ++ [(c.toNat : Int)]).length = (nm bs).length + 1 by simp] at this ⊢
    exact this
  · exact K1.out.trans ((Kept.grown HO.out G7.out).trans (Kept.set b 1 _ _))
  · exact B7.out.setCell (p := ⟨b, 1, none⟩) hB _
set_option maxHeartbeats 1000000 in
set_option maxRecDepth 100000 in
theorem ws_calls (B b : Nat) (p : Value) (bs : List UInt8) (s : ByteArray) (W : World) (hp : p = .pointer none ∨ p = .pointer (some ⟨b, 0, none⟩)) (h : Bd W B b p bs) (hB : B ≤ b) (hl : bs.length ≤ 1000000000000) (hs : s.size ≤ 1000000000000) :
    Calls Tryd.prog 68 #[.pointer (some ⟨b, 0, none⟩), .string s] W fun e w' => e = .returned (.tuple #[.int .i64 s.size, .nilIface]) ∧ Bd w' B b (.pointer (some ⟨b, 0, none⟩)) (bs ++ s.data.toList) ∧ Kept b W w' ∧ Below B W w' := by
  have HH := Aside0.mk h
  have hln := nm_length bs
  have HL := Aside0.mk hln
  clear h hln
  have hsz : B ≤ W.heap.size := by
    obtain ⟨v, hb, _⟩ := HH.out
    exact Nat.le_trans hB (Nat.le_of_lt (blk_lt hb))
  go_enter Tryd.func68, Tryd.ntmps68
  go_wp2_with (go_at_call 83; refine (cc_any B b p bs _ hp HH.out hB).mono ?_)
  rintro e w1 ⟨rfl, h1, k1, b1⟩
  obtain ⟨v, hb, ho⟩ := h1
  have c1 := blk_cell hb 1
  have f1 := blk_frozen hb 1
  have c1 : w1.cell? ⟨b, 1, none⟩ = some v := c1
  have hs1 : B ≤ w1.heap.size := Nat.le_trans hsz b1.size
  have HO := Aside0.mk ho
  have K1 := Aside0.mk k1
  have B1 := Aside0.mk b1
  have HBK := Aside0.mk hb
  clear ho k1 b1 hb
  go_wp2_with ((with_reducible refine gate_builtin (b := .append) (xs := #[.tmp 12, .tmp 13]) rfl ?_); at_builtin; refine print_append_str (w0 := W) B rfl (.tmp 12) (.tmp 13) 86 9 5 rfl Tryd.underlying86 Tryd.underlying9 infoB v (nm bs) s rfl rfl HO.out B1.out hs1 (by rw [HL.out]; omega) ?_; intro v7 w7 ho7 hb7 hg7; obtain ⟨A7, q7, rfl⟩ := own_slice ho7; have bk7 := blk_grown HBK.out hg7 (own_ne HO.out HBK.out (by simp)); have c7 := blk_cell bk7 1; have f7 := blk_frozen bk7 1; have c7 : w7.cell? ⟨b, 1, none⟩ = some v := c7; have O7 := Aside0.mk ho7; have B7 := Aside0.mk hb7; have G7 := Aside0.mk hg7; have BK7 := Aside0.mk bk7; clear ho7 hb7 hg7 bk7)
  go_ret2
  refine ⟨rfl, ⟨_, blk_put BK7.out 1 _ rfl, ?_⟩, ?_, ?_⟩
  · have e : nm (bs ++ s.data.toList) = nm bs ++ bytesOf s := by simp [nm, bytesOf]
    rw [e]
    have := own_set O7.out (a := ⟨b, 1, none⟩) (own_ne O7.out BK7.out (by simp)) (.slice A7 (nm bs ++ bytesOf s).length q7)
    rw [show (nm bs ++ bytesOf s).length = (nm bs).length + (bytesOf s).length by simp] at this ⊢
    exact this
  · exact K1.out.trans ((Kept.grown HO.out G7.out).trans (Kept.set b 1 _ _))
  · exact B7.out.setCell (p := ⟨b, 1, none⟩) hB _
end Go.Proofs.YtgihgmniijhfoaaDoor.LexW
