/- lex: what its functions do, walked step by step. -/
import Derived.Test.YtgihgmniijhfoaaDoorZLexW0
import Derived.Test.YtgihgmniijhfoaaDoorProg
import Derived.Below
import Derived.Deep.Draws
import Derived.Deep.AppendLies
import Derived.Maps.AppendAt
import Derived.OwnWalk
import Derived.Laws.BytesArg
import Derived.Laws.MakeOwn
import Derived.Laws.OwnMore
import Derived.Deep.OwnRows
import Derived.Tactics
import Derived.Lib.ConvBytes
import Derived.Laws.Slices
import Derived.WalkKit
import Derived.KernelRfl
import Derived.RowKit3
import Derived.Deep.LoopGhost
import Derived.Deep.QuietTactic
import Derived.BigQuiet
import Derived.WideLaws
import Derived.Deep.DeepCutAuto
import Derived.Deep.CutBlock
import Derived.Deep.RegionHeld3
import Derived.Laws.Rows
import Derived.Lib.AppendStr
import Derived.ArgAppend
import Derived.Laws.IdiomCopy
import Derived.OrdersHeld
import Derived.Laws.BitsLemmas
import Derived.RowKit
import Derived.Lib.AppendIntMem
import Derived.Test.YtgihgmniijhfoaaDoorWWords
import Derived.Test.YtgihgmniijhfoaaDoorWLast
import Derived.Test.YtgihgmniijhfoaaDoorWTab
import Derived.Test.YtgihgmniijhfoaaDoorWFour
import Derived.Test.YtgihgmniijhfoaaDoorWQPut
import Derived.Test.YtgihgmniijhfoaaDoorWApart
import Derived.Test.YtgihgmniijhfoaaDoorWArr
import Derived.Test.YtgihgmniijhfoaaDoorWZeros
import Derived.Test.YtgihgmniijhfoaaDoorWFoot
import Derived.Test.YtgihgmniijhfoaaDoorWKept
import Derived.Test.YtgihgmniijhfoaaDoorWShare
import Derived.Test.YtgihgmniijhfoaaDoorWN
import Derived.Test.YtgihgmniijhfoaaDoorWFootNe
import Derived.Test.YtgihgmniijhfoaaDoorWAt
import Derived.Test.YtgihgmniijhfoaaDoorWEqStruct
import Derived.Test.YtgihgmniijhfoaaDoorWRepsOne
import Derived.Test.YtgihgmniijhfoaaDoorWInv
import Derived.Test.YtgihgmniijhfoaaDoorWInvWords
import Derived.Test.YtgihgmniijhfoaaDoorWGuard
import Derived.Test.YtgihgmniijhfoaaDoorWNEv
import Derived.Test.YtgihgmniijhfoaaDoorWMore
import Derived.Test.YtgihgmniijhfoaaDoorZLexW1
import Derived.Test.YtgihgmniijhfoaaDoorShelf
import Derived.Test.YtgihgmniijhfoaaDoorZLexW2
namespace Go.Proofs.YtgihgmniijhfoaaDoor.LexW
open Go.RowKit Go.Proofs.YtgihgmniijhfoaaDoorW.PrintWords Go.Proofs.YtgihgmniijhfoaaDoorW.PrintLast Go.Proofs.YtgihgmniijhfoaaDoorW.PrintMore Go.Proofs.YtgihgmniijhfoaaDoor.Lex
set_option linter.unusedVariables false
set_option linter.unusedSimpArgs false
def Row (W : World) (r : Nat) (s : ByteArray) : Prop := ∃ cur fz, W.heap[r]? = some (.cells cur 5 fz) ∧ fz ≠ (0, 0) ∧ ∀ j (h : j < s.size), cur[j]? = some (.int .u8 (s[j].toNat : Int))
theorem below_of_grown {W W' : World} (h : W.grownBy W' none) : Below W.heap.size W W' := ⟨h.os, h.tape, h.output, h.size, fun i hi => h.block i hi (by simp)⟩
theorem Row.same {W W' : World} {r : Nat} {s : ByteArray} (h : Row W r s) (e : W'.heap[r]? = W.heap[r]?) : Row W' r s := by
  obtain ⟨cur, fz, h1, h2⟩ := h
  exact ⟨cur, fz, e.trans h1, h2⟩
theorem Row.lt {W : World} {r : Nat} {s : ByteArray} (h : Row W r s) : r < W.heap.size := by
  obtain ⟨cur, fz, h1, h2⟩ := h
  exact blk_lt h1
theorem Row.kept {W W' : World} {r b : Nat} {s : ByteArray} (h : Row W r s) (k : Kept b W W') (hb : r ≠ b) : Row W' r s := by
  refine h.same (k.2 r h.lt hb fun cur e => ?_)
  obtain ⟨cur', fz, h1, h2, _⟩ := h
  rw [h1] at e
  injection e with e
  injection e with _ _ e
  exact h2 e
theorem Row.cell {W : World} {r : Nat} {s : ByteArray} (h : Row W r s) (j : Nat) (hj : j < s.size) : W.cell? ⟨r, j, none⟩ = some (.int .u8 (s[j].toNat : Int)) := by
  obtain ⟨cur, fz, h1, _, h3⟩ := h
  rw [Lib.cell_of_heap h1]
  exact h3 j hj
theorem sig_same {W W' : World} {m : Nat} (h : IsSig W m) (e : W'.heap[m]? = W.heap[m]?) : IsSig W' m := by
  obtain ⟨es, clock, h1, h2⟩ := h
  exact ⟨es, clock, e.trans h1, h2⟩
theorem sig_lt {W : World} {m : Nat} (h : IsSig W m) : m < W.heap.size := World.ownsMap.lt h
theorem sig_kept {W W' : World} {m b : Nat} (h : IsSig W m) (k : Kept b W W') (hb : m ≠ b) : IsSig W' m := by
  refine sig_same h (k.2 m (sig_lt h) hb fun cur e => ?_)
  obtain ⟨es, clock, h1, _⟩ := h
  rw [h1] at e
  cases e
theorem Bd.lt {W : World} {B b : Nat} {p : Value} {bs : List UInt8} (h : Bd W B b p bs) : b < W.heap.size := by
  obtain ⟨v, hb, _⟩ := h
  exact blk_lt hb
theorem own_below {W W' : World} {B n : Nat} {v : Value} {xs : List Value} (ho : W.ownsRow B 5 1 v n xs) (hb : Below W.heap.size W W') : W'.ownsRow B 5 1 v n xs := by
  refine ⟨ho.1, ho.2.imp id ?_⟩
  rintro ⟨g, cap, cur, rfl, h1, h2, h3⟩
  exact ⟨g, cap, cur, rfl, h1, blk_below h2 hb, h3⟩
theorem Bd.below {W W' : World} {B b : Nat} {p : Value} {bs : List UInt8} (h : Bd W B b p bs) (hb : Below W.heap.size W W') : Bd W' B b p bs := by
  obtain ⟨v, h1, h2⟩ := h
  exact ⟨v, blk_below h1 hb, own_below h2 hb⟩
theorem row_made (W : World) (s : ByteArray) : Row (Lib.bytesWorld W 5 s) W.heap.size s := by
  have hsz : (Lib.bytesCells W 5 s).size = Nat.max s.size (grownCap W s.size 0 5) ∨ True := .inr trivial
  have h1 : (W.drew.alloc (.cells (Lib.bytesCells W 5 s) 5)).heap[W.heap.size]? = some (.cells (Lib.bytesCells W 5 s) 5 (0, 0)) := MapKept.heap_alloc W.drew _ |>.1
  refine ⟨Lib.bytesCells W 5 s, ((Lib.bytesCells W 5 s).size, (Lib.bytesCells W 5 s).size + 1), ?_, by simp, fun j hj => ?_⟩
  · unfold Lib.bytesWorld World.freeze
    rw [if_neg (by decide)]
    simp only [Array.getElem?_modify, if_pos, h1]
    rfl
  · have hj' : j < s.data.size := hj
    unfold Lib.bytesCells
    rw [Array.getElem?_append_left (by simpa using hj'), Array.getElem?_map, Array.getElem?_eq_getElem hj']
    rfl
/-- Which sign has been found for a byte, these being still to come. -/
def Beh (c : UInt8) (left : Lit → Bool) (v : Int) : Prop := (v = 0 ∧ ∀ x, escL x = some c → left (.int .u8 x.toNat) = true) ∨ (v = (unescL c).toNat ∧ unescL c ≠ 0)
theorem esc_back {x c : UInt8} (h : escL x = some c) : unescL c = x ∧ x ≠ 0 := by
  have := Go.Proofs.YtgihgmniijhfoaaDoor.Lex.bytes (p := fun x => match escL x with | none => true | some y => unescL y == x && x != 0) (by decide +kernel) x
  rw [h] at this
  simpa using this
theorem beh_end {c : UInt8} {left : Lit → Bool} {v : Int} (h : Beh c left v) (hl : ∀ k, left k = false) : v = (unescL c).toNat := by
  rcases h with ⟨rfl, h⟩ | ⟨h, _⟩
  · by_cases h0 : unescL c = 0
    · rw [h0]; rfl
    · have := h _ (esc_unesc c h0)
      rw [hl] at this
      cases this
  · exact h
theorem sig_read {x : Int} {e : Int} (h0 : 0 ≤ x) (h1 : x < 256) (hat : ∀ z : DataW Unit, SIGD.atKey (.int .u8 x) z = .lit (.int .u8 e)) : ∃ x' e' : UInt8, x = x'.toNat ∧ e = e'.toNat ∧ escL x' = some e' := by
  obtain ⟨n, rfl⟩ := Int.eq_ofNat_of_zero_le h0
  have hn : n < 256 := by omega
  have hx : (UInt8.ofNat n).toNat = n := by simp; omega
  refine ⟨UInt8.ofNat n, ?_⟩
  cases he : escL (UInt8.ofNat n) with
  | none =>
    have e0 := ((sig_at (UInt8.ofNat n) (bd 0)).2 he).2
    have e1 := ((sig_at (UInt8.ofNat n) (bd 1)).2 he).2
    rw [hx] at e0 e1
    have h0 := bd_inj ((hat (bd 0)).symm.trans e0)
    have h1 := bd_inj ((hat (bd 1)).symm.trans e1)
    omega
  | some y =>
    have hh := ((sig_at (UInt8.ofNat n) (bd 0)).1 y he).2
    rw [hx] at hh
    exact ⟨y, by rw [hx], bd_inj ((hat (bd 0)).symm.trans hh), rfl⟩
theorem conv2 (W : World) (B : Nat) (hB : B ≤ W.heap.size) (x : UInt8) :
    (convert 86 9 (.slice (some ⟨W.heap.size, 0, none⟩) 2 2)).run Tryd.prog (W.alloc (.cells #[.int .u8 92, .int .u8 (x.toNat : Int)] 5)) = .ok (.string ⟨#[92, x]⟩) (W.alloc (.cells #[.int .u8 92, .int .u8 (x.toNat : Int)] 5)) := by
  have h := own_string (P := Tryd.prog) (w := W.alloc (.cells #[.int .u8 92, .int .u8 (x.toNat : Int)] 5)) (base := B) (n := 2) (v := .slice (some ⟨W.heap.size, 0, none⟩) 2 2) (xs := nm [92, x]) (e' := 5) Tryd.underlying86 Tryd.underlying5 Tryd.underlying9
    ⟨rfl, .inr ⟨W.heap.size, 2, _, rfl, hB, (MapKept.heap_alloc W _).1, by omega, by decide, rfl, rfl⟩⟩
  rw [str_nm] at h
  exact h
theorem bd_builder {W : World} {B b : Nat} {p : Value} {bs : List UInt8} (hp : p = .pointer none ∨ p = .pointer (some ⟨b, 0, none⟩)) (h : Bd W B b p bs) (hB : B ≤ b) : Lib.IsBuilderF 99 5 B b (Lib.byteCells bs) W := by
  obtain ⟨v, hb, ho⟩ := h
  have hn : v.ownBlock ≠ some b := fun e => own_ne ho hb (by simp) e.symm
  have e : nums .u8 (nm bs) = Lib.byteCells bs := by simp [nums, nm, Lib.byteCells]
  have hl : (nm bs).length = (Lib.byteCells bs).length := by simp [nm, Lib.byteCells]
  rw [e, hl] at ho
  rcases hp with rfl | rfl
  · exact .inl ⟨hB, v, hb, World.ownsRowF_of ho, hn⟩
  · exact .inr ⟨hB, v, hb, World.ownsRowF_of ho, hn⟩
theorem bd_made (W : World) : Bd (W.alloc (.cells #[.pointer none, .slice none 0 0] 99)) W.heap.size W.heap.size (.pointer none) [] := ⟨_, (MapKept.heap_alloc W _).1, rfl, .inl ⟨rfl, rfl⟩⟩
def shownF (s : ByteArray) : ByteArray × Bool := match shownL s.data.toList [34] with | none => (⟨#[]⟩, false) | some z => (⟨z.toArray⟩, true)
theorem retb {a a' : ByteArray} {b b' : Bool} (h : (a, b) = (a', b')) : Ending.returned (.tuple #[.string a, .bool b]) = Ending.returned (.tuple #[.string a', .bool b']) := by
  cases h
  rfl
set_option maxHeartbeats 1000000 in
set_option maxRecDepth 100000 in
theorem shown_calls (s : ByteArray) (hs : s.size ≤ 100000000000) (w : World) : Calls Tryd.prog 53 #[.string s] w fun e w' =>
    e = .returned (.tuple #[.string (shownF s).1, .bool (shownF s).2]) ∧ Below w.heap.size w w' := by
  obtain ⟨res, hres⟩ : ∃ r, r = shownL s.data.toList [34] := ⟨_, rfl⟩
  have hfin : ∀ a b, (match res with | none => ((⟨#[]⟩ : ByteArray), false) | some z => (⟨z.toArray⟩, true)) = (a, b) → shownF s = (a, b) := by
    intro a b h
    unfold shownF
    rw [← hres]
    exact h
  have FIN := Aside0.mk hfin
  have RES := Aside0.mk hres
  clear hres hfin
  have bm := bd_made w
  have BM := Aside0.mk bm
  clear bm
  go_enter Tryd.func53, Tryd.ntmps53
  go_wp2_with (first
    | (go_at_call 67; refine (wb_calls w.heap.size w.heap.size (.pointer none) [] 34 _ (.inl rfl) BM.out (Nat.le_refl _) (by simp)).mono ?_; rintro e w1 ⟨rfl, d1, k1, b1⟩; have D1 := Aside0.mk d1; have B1 : Aside0 (Below w.heap.size w w1) := ⟨((Below.refl w.heap.size w).alloc (Nat.le_refl _) _).trans b1⟩; clear d1 k1 b1)
    | (go_at_call 62; refine (signs_calls _).mono ?_; rintro e w2 ⟨rfl, hsig, hb⟩; have S2 := Aside0.mk hsig; have D2 := Aside0.mk (D1.out.below hb); have B2 := Aside0.mk (below_step B1.out hb); have L1 := Aside0.mk D1.out.lt; have NE := Aside0.mk (show w1.heap.size ≠ w.heap.size from Nat.ne_of_gt D1.out.lt); have hcv := Lib.run_convert_string_bytes (P := Tryd.prog) w2 9 86 5 s (u := .string) Tryd.underlying9 Tryd.underlying86 Tryd.underlying5; obtain ⟨w3, hw3⟩ : ∃ W, W = Lib.bytesWorld w2 5 s := ⟨_, rfl⟩; rw [← hw3] at hcv; have hb3 := Lib.bytesWorld_below w2 5 s; have hr3 := row_made w2 s; rw [← hw3] at hb3 hr3; have S3 := Aside0.mk (sig_same S2.out (hb3.block _ (sig_lt S2.out))); have D3 := Aside0.mk (D2.out.below hb3); have B3 := Aside0.mk (below_step B2.out hb3); have R3 := Aside0.mk hr3; have NR := Aside0.mk (show w2.heap.size ≠ w.heap.size from Nat.ne_of_gt D2.out.lt); clear hsig hb hw3 hb3 hr3))
  clear hcv S2 D2 B2 D1 B1 BM
  go_loopw [16] (fun v16 wx => ∃ (k : Nat) (out : List UInt8), v16 = .int .i64 (k : Int) ∧ Aside0 (k ≤ s.size ∧ out.length ≤ 2 * k + 1 ∧ shownL (s.data.toList.drop k) out = res) ∧ Aside0 (Bd wx w.heap.size w.heap.size (.pointer (some ⟨w.heap.size, 0, none⟩)) out) ∧ Aside0 (IsSig wx w1.heap.size) ∧ Aside0 (Row wx w2.heap.size s) ∧ Aside0 (Below w.heap.size w wx)) (fun v16 _ => s.size - (intOf v16).toNat)
  case atStart => exact ⟨0, [34], rfl, ⟨Nat.zero_le _, by simp, by rw [RES.out]; rfl⟩, D3, S3, R3, B3⟩
  case round =>
    clear RES S3 D3 B3 R3
    obtain ⟨k, out, rfl, HK, HD, HS, HR, HB⟩ := hrel
    obtain ⟨wo, rfl⟩ : ∃ wo : World, wo = wr := ⟨_, rfl⟩
    by_cases hk : k < s.size
    · have hq := HK.out.2.2
      rw [drop_at s k hk, shownL] at hq
      have HQ := Aside0.mk hq
      clear hq
      have hc := HR.out.cell k hk
      have hlt := sig_lt HS.out
      have LT := Aside0.mk hlt
      clear hlt
      generalize hcc : s[k] = c at *
      have hc256 : c.toNat < 256 := c.toNat_lt
      clear hcc
      go_wp2_with (at_range; refine wpList_range_own _ rfl _ 88 rfl 5 5 byteLaw Tryd.underlying88 _ w1.heap.size 5 SIGD rfl HS.out ?_; intro w0 hrg0 hg0 hs0)
      go_frame
      go_loopw [8] (fun v8 wr => ∃ (left : Lit → Bool) (cnt : Nat) (v : Int), v8 = .int .u8 v ∧ Aside0 (wr.ranges Tryd.prog 5 (plainElem Tryd.prog 5) w1.heap.size wo.heap.size 5 SIGD left cnt) ∧ Aside0 (Beh c left v) ∧ Aside0 (Below wo.heap.size wo wr)) (fun _ wr => wr.rangeLeft w1.heap.size wo.heap.size)
      case atStart => exact ⟨_, _, 0, rfl, ⟨hrg0⟩, ⟨.inl ⟨rfl, fun x hx => ((sig_at x (bd 0)).1 c hx).1⟩⟩, ⟨below_of_grown hg0⟩⟩
      case round =>
        obtain ⟨left, cnt, v, rfl, RG, BH, BO⟩ := hrel
        go_wp2_with (at_next; refine wpList_next_ranges_ii _ rfl _ rfl 5 5 .u8 .u8 byteLaw Tryd.underlying5 Tryd.underlying5 w1.heap.size wo.heap.size 5 _ _ _ rfl RG.out ?_ ?_)
        · intro _ hl0
          have hv := beh_end BH.out hl0
          subst hv
          have HD' := Aside0.mk (HD.out.below BO.out)
          have HS' := Aside0.mk (sig_same HS.out (BO.out.block _ LT.out))
          have HR' := Aside0.mk (HR.out.same (BO.out.block _ HR.out.lt))
          have HB' := Aside0.mk (below_step HB.out BO.out)
          clear HD HS HR HB RG BH hl0 BO hrg0 hg0 hs0
          have hsz := below_size HB'.out
          have HZ := Aside0.mk hsz
          clear hsz
          by_cases h0 : unescL c ≠ 0
          · have t0 : (((unescL c).toNat : Int) != 0) = true := by
              rw [bne_iff_ne]
              intro h
              exact h0 (UInt8.toNat_inj.1 (by rw [Int.ofNat_inj.1 h]; rfl))
            have q2 := HQ.out
            rw [if_pos h0] at q2
            have HQ2 := Aside0.mk q2
            have HP := Aside0.mk h0
            clear q2 h0 HQ
            have hcv2 := conv2 wr w.heap.size HZ.out (unescL c)
            go_wp2_with (go_at_call 68; refine (ws_calls w.heap.size w.heap.size (.pointer (some ⟨w.heap.size, 0, none⟩)) out ⟨#[92, unescL c]⟩ _ (.inr rfl) (HD'.out.below (below_alloc (Below.refl _ _) _)) (Nat.le_refl _) (by have := HK.out; omega) (by simp [ByteArray.size])).mono ?_; rintro e w7 ⟨rfl, d7, k7, b7⟩; have D7 := Aside0.mk d7; have k8 := (Kept.alloc w.heap.size wr (.cells #[.int .u8 92, .int .u8 ((unescL c).toNat : Int)] 5)).trans k7; have S7 := Aside0.mk (sig_kept HS'.out k8 NE.out); have R7 := Aside0.mk (HR'.out.kept k8 NR.out); have B7 : Aside0 (Below w.heap.size w w7) := ⟨(below_alloc HB'.out _).trans b7⟩; clear d7 k7 b7 k8)
            go_roundw
            case rel => exact ⟨k + 1, out ++ [92, unescL c], by go_num, ⟨by omega, by have := HK.out; simp; omega, HQ2.out⟩, D7, S7, R7, B7⟩
            case measure => simp [intOf]; omega
          · have h0 : unescL c = 0 := Decidable.not_not.1 h0
            have q2 := HQ.out
            rw [if_neg (by simp [h0])] at q2
            have t0 : (((unescL c).toNat : Int) != 0) = false := by rw [h0]; rfl
            have HP := Aside0.mk h0
            clear h0 HQ
            by_cases hp : plainC c = true
            · rw [if_pos hp] at q2
              have HQ2 := Aside0.mk q2
              have hp' : 32 ≤ c.toNat ∧ c.toNat ≤ 126 := by simpa [plainC, UInt8.le_iff_toNat_le] using hp
              have d1 : decide ((c.toNat : Int) < 32) = false := decide_eq_false (by omega)
              have d2 : decide ((126 : Int) < (c.toNat : Int)) = false := decide_eq_false (by omega)
              clear q2 hp hp'
              go_wp2_with (go_at_call 67; refine (wb_calls w.heap.size w.heap.size (.pointer (some ⟨w.heap.size, 0, none⟩)) out c _ (.inr rfl) HD'.out (Nat.le_refl _) (by have := HK.out; omega)).mono ?_; rintro e w7 ⟨rfl, d7, k7, b7⟩; have D7 := Aside0.mk d7; have S7 := Aside0.mk (sig_kept HS'.out k7 NE.out); have R7 := Aside0.mk (HR'.out.kept k7 NR.out); have B7 : Aside0 (Below w.heap.size w w7) := ⟨HB'.out.trans b7⟩; clear d7 k7 b7)
              go_roundw
              case rel => exact ⟨k + 1, out ++ [c], by go_num, ⟨by omega, by have := HK.out; simp; omega, HQ2.out⟩, D7, S7, R7, B7⟩
              case measure => simp [intOf]; omega
            · rw [if_neg hp] at q2
              have HQ2 := Aside0.mk q2
              have hp' : c.toNat < 32 ∨ 126 < c.toNat := by
                have : ¬ (32 ≤ c.toNat ∧ c.toNat ≤ 126) := by simpa [plainC, UInt8.le_iff_toNat_le] using hp
                omega
              clear q2 hp
              rcases hp' with hp' | hp'
              · have d1 : decide ((c.toNat : Int) < 32) = true := decide_eq_true (by omega)
                go_wp2
                go_ret2
                exact ⟨retb (FIN.out _ _ (by rw [← HQ2.out])).symm, HB'.out⟩
              · have d1 : decide ((c.toNat : Int) < 32) = false := decide_eq_false (by omega)
                have d2 : decide ((126 : Int) < (c.toNat : Int)) = true := decide_eq_true (by omega)
                go_wp2
                go_ret2
                exact ⟨retb (FIN.out _ _ (by rw [← HQ2.out])).symm, HB'.out⟩
        · intro x e w1' cnt1 hwx hwc hlx hat hrg1 hlt hg1 hs1 hen
          have hx : 0 ≤ x ∧ x < 256 := by
            simp [Lit.wf, IntKind.min, IntKind.max, IntKind.signed, IntKind.bits] at hwx
            omega
          obtain ⟨x', e', rfl, rfl, hesc⟩ := sig_read hx.1 hx.2 hat
          have BO' := Aside0.mk (BO.out.grown hg1 BO.out.size (fun j hj => by cases hj; exact Nat.le_refl _))
          have RG' := Aside0.mk hrg1
          have MS := Aside0.mk (show wr.rangeLeft w1.heap.size wo.heap.size = cnt ∧ w1'.rangeLeft w1.heap.size wo.heap.size = cnt1 from ⟨RG.out.left_eq, hrg1.left_eq⟩)
          have LT1 := Aside0.mk hlt
          have ESC := Aside0.mk hesc
          clear hat hwx hwc hlx hrg1 hlt hg1 hs1 hesc hx hrg0 hg0 hs0
          by_cases hec : e' = c
          · have t1 : ((e'.toNat : Int) == (c.toNat : Int)) = true := by rw [hec]; exact beq_self_eq_true _
            have HE := Aside0.mk hec
            clear hec
            go_wp2
            go_roundw
            case rel => exact ⟨_, cnt1, _, rfl, RG', ⟨.inr ⟨by have := esc_back (HE.out ▸ ESC.out); rw [this.1], by have := esc_back (HE.out ▸ ESC.out); rw [this.1]; exact this.2⟩⟩, BO'⟩
            case measure => rw [MS.out.1, MS.out.2]; exact LT1.out
          · have t1 : ((e'.toNat : Int) == (c.toNat : Int)) = false := beq_eq_false_iff_ne.2 fun h => hec (UInt8.toNat_inj.1 (Int.ofNat_inj.1 h))
            have HE := Aside0.mk hec
            clear hec
            go_wp2
            go_roundw
            case rel =>
              refine ⟨_, cnt1, _, rfl, RG', ⟨BH.out.imp (fun ⟨hv, hl⟩ => ⟨hv, fun y hy => ?_⟩) id⟩, BO'⟩
              have hyx : y ≠ x' := fun h => by
                rw [h, ESC.out] at hy
                exact HE.out (Option.some.inj hy)
              have : (Lit.int .u8 (y.toNat : Int)).sameKey (.int .u8 (x'.toNat : Int)) = false := Maps.sameKey_ne (fun h => by
                injection h with _ h
                exact hyx (UInt8.toNat_inj.1 (Int.ofNat_inj.1 h)))
              show (left (.int .u8 (y.toNat : Int)) && !(Lit.int .u8 (y.toNat : Int)).sameKey (.int .u8 (x'.toNat : Int))) = true
              rw [hl y hy, this]
              rfl
            case measure => rw [MS.out.1, MS.out.2]; exact LT1.out
    · have hq := HK.out.2.2
      rw [drop_end s k hk, shownL] at hq
      have HQ := Aside0.mk hq
      clear hq
      have hsz := below_size HB.out
      have HZ := Aside0.mk hsz
      clear hsz
      go_wp2_with (first
        | (go_at_call 67; refine (wb_calls w.heap.size w.heap.size (.pointer (some ⟨w.heap.size, 0, none⟩)) out 34 _ (.inr rfl) HD.out (Nat.le_refl _) (by have := HK.out; omega)).mono ?_; rintro e w7 ⟨rfl, d7, k7, b7⟩; have D7 := Aside0.mk d7; have B7 : Aside0 (Below w.heap.size w w7) := ⟨HB.out.trans b7⟩; have Z7 := Aside0.mk (Nat.le_of_lt d7.lt); clear d7 k7 b7)
        | (go_at_call 69; refine (Tryd.Builder_String_any_k w.heap.size w.heap.size (out ++ [34]) _ (bd_builder (.inr rfl) D7.out (Nat.le_refl _)) Z7.out).mono ?_; rintro e w8 ⟨rfl, _, b8, _⟩; have B8 : Aside0 (Below w.heap.size w w8) := ⟨B7.out.trans b8⟩; clear b8))
      go_ret2
      exact ⟨retb (FIN.out _ _ (by rw [← HQ.out])).symm, B8.out⟩
end Go.Proofs.YtgihgmniijhfoaaDoor.LexW
