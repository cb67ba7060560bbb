/- strconv.FormatUint at base 16, walked step by step. -/
import Derived.Test.YtgihgmniijhfoaaDoorZLexW0
import Derived.Test.YtgihgmniijhfoaaDoorProg
import Derived.Below
import Derived.Deep.Draws
import Derived.Deep.AppendLies
import Derived.Maps.AppendAt
import Derived.OwnWalk
import Derived.Laws.BytesArg
import Derived.Laws.MakeOwn
import Derived.Laws.OwnMore
import Derived.Deep.OwnRows
import Derived.Tactics
import Derived.Lib.ConvBytes
import Derived.Laws.Slices
import Derived.WalkKit
import Derived.KernelRfl
import Derived.RowKit3
import Derived.Deep.LoopGhost
import Derived.Deep.QuietTactic
import Derived.BigQuiet
import Derived.WideLaws
import Derived.Deep.DeepCutAuto
import Derived.Deep.CutBlock
import Derived.Deep.RegionHeld3
import Derived.Laws.Rows
import Derived.Lib.AppendStr
import Derived.ArgAppend
import Derived.Laws.IdiomCopy
import Derived.OrdersHeld
import Derived.Laws.BitsLemmas
import Derived.RowKit
import Derived.Lib.AppendIntMem
import Derived.Test.YtgihgmniijhfoaaDoorWWords
import Derived.Test.YtgihgmniijhfoaaDoorWLast
import Derived.Test.YtgihgmniijhfoaaDoorWTab
import Derived.Test.YtgihgmniijhfoaaDoorWFour
import Derived.Test.YtgihgmniijhfoaaDoorWQPut
import Derived.Test.YtgihgmniijhfoaaDoorWApart
import Derived.Test.YtgihgmniijhfoaaDoorWArr
import Derived.Test.YtgihgmniijhfoaaDoorWZeros
import Derived.Test.YtgihgmniijhfoaaDoorWFoot
import Derived.Test.YtgihgmniijhfoaaDoorWKept
import Derived.Test.YtgihgmniijhfoaaDoorWShare
import Derived.Test.YtgihgmniijhfoaaDoorWN
import Derived.Test.YtgihgmniijhfoaaDoorWFootNe
import Derived.Test.YtgihgmniijhfoaaDoorWAt
import Derived.Test.YtgihgmniijhfoaaDoorWEqStruct
import Derived.Test.YtgihgmniijhfoaaDoorWRepsOne
import Derived.Test.YtgihgmniijhfoaaDoorWInv
import Derived.Test.YtgihgmniijhfoaaDoorWInvWords
import Derived.Test.YtgihgmniijhfoaaDoorWGuard
import Derived.Test.YtgihgmniijhfoaaDoorWNEv
import Derived.Test.YtgihgmniijhfoaaDoorWMore
import Derived.Test.YtgihgmniijhfoaaDoorZLexW1
import Derived.Test.YtgihgmniijhfoaaDoorShelf
import Derived.Test.YtgihgmniijhfoaaDoorZLexW2
import Derived.Test.YtgihgmniijhfoaaDoorZLexW3
import Derived.Lib.AtoiAllMem
import Derived.Laws.Strings3
import Derived.Laws.Closers25
import Derived.Laws.Closers25b
import Derived.BigCall
import Derived.BigGuard
import Derived.Test.YtgihgmniijhfoaaDoorZLexW5
import Derived.Test.YtgihgmniijhfoaaDoorZLexW4
import Derived.Test.YtgihgmniijhfoaaDoorZLexW6
import Derived.Test.YtgihgmniijhfoaaDoorZLexW7
import Derived.Test.YtgihgmniijhfoaaDoorZLexW8
import Derived.Laws.Bits64b
import Derived.Lib.Tables
namespace Go.Proofs.YtgihgmniijhfoaaDoor.LexW
open Go.RowKit Go.Proofs.YtgihgmniijhfoaaDoor.LexP Go.Proofs.YtgihgmniijhfoaaDoorW.PrintWords Go.Proofs.YtgihgmniijhfoaaDoorW.PrintLast Go.Proofs.YtgihgmniijhfoaaDoorW.PrintMore Go.Proofs.YtgihgmniijhfoaaDoor.Lex
set_option linter.unusedVariables false
set_option linter.unusedSimpArgs false
set_option maxHeartbeats 1000000 in
theorem tz16 (w : World) (h : w.cell? ⟨6, 15, none⟩ = some (.int .u8 4)) : Calls Tryd.prog 110 #[.int .u64 16] w fun e w' => e = .returned (.int .i64 4) ∧ w' = w := by
  have key : IntKind.u64.wrap (Go.bits .and .u64 16 (IntKind.u64.wrap (-16)) * 285870213051353865) / 288230376151711744 = 15 := by decide +kernel
  go_enter Tryd.func110, Tryd.ntmps110
  go_wp2
  go_ret
  exact ⟨rfl, rfl⟩
set_option maxHeartbeats 1000000 in
theorem tz16u (w : World) (h : w.cell? ⟨6, 15, none⟩ = some (.int .u8 4)) : Calls Tryd.prog 105 #[.int .u64 16] w fun e w' => e = .returned (.int .i64 4) ∧ w' = w := by
  have H := Aside0.mk h
  clear h
  go_enter Tryd.func105, Tryd.ntmps105
  go_wp2_with (go_at_call 110; refine (tz16 _ H.out).mono ?_; rintro e w' ⟨rfl, rfl⟩)
  go_ret
  exact ⟨rfl, rfl⟩
set_option maxHeartbeats 1000000 in
theorem pow2 (w : World) : Calls Tryd.prog 104 #[.int .i64 16] w fun e w' => e = .returned (.bool true) ∧ w' = w := by
  go_enter Tryd.func104, Tryd.ntmps104
  have key : Go.bits .and .i64 16 15 = 0 := by decide +kernel
  go_wp2
  go_ret
  exact ⟨rfl, rfl⟩
def hexL (n : Nat) : List UInt8 := if n < 16 then [hexDig n] else hexL (n / 16) ++ [hexDig (n % 16)]
def DIGS : ByteArray := ⟨#[48, 49, 50, 51, 52, 53, 54, 55, 56, 57, 97, 98, 99, 100, 101, 102, 103, 104, 105, 106, 107, 108, 109, 110, 111, 112, 113, 114, 115, 116, 117, 118, 119, 120, 121, 122]⟩
theorem dig_at (n : Nat) (hn : n < 16) (h : n < DIGS.size) : DIGS[n] = hexDig n := by
  have : ∀ n, n < 16 → DIGS.data.toList.getD n 0 = hexDig n := by decide +kernel
  rw [← this n hn]
  have hl : n < DIGS.data.toList.length := by rw [size_data]; exact h
  simp [List.getD, List.getElem?_eq_getElem hl]
  rfl
theorem dig_int (x : Int) (n : Nat) (hx : x = n) (hn : n < 16) (h : x.toNat < DIGS.size) : DIGS[x.toNat] = hexDig n := by
  subst hx
  exact dig_at n hn h
theorem len_small {y : Int} {a n : Nat} (h : y = a) (hy : 16 ≤ y) (hlt : a < 16 ^ (16 - n)) : n ≤ 14 := by
  rcases Nat.lt_or_ge 14 n with hn | hn
  · have : 16 - n ≤ 1 := by omega
    have := Nat.lt_of_lt_of_le hlt (Nat.pow_le_pow_right (by decide : 1 ≤ 16) this)
    omega
  · exact hn
theorem cells_step {cs : Array Value} {i z : Nat} {ds : List UInt8} {v : UInt8} (h : ∀ j (h : j < ds.length), cs[i + j]? = some (.int .u8 (ds[j].toNat : Int))) (hz : z + 1 = i) (hs : z < cs.size) :
    ∀ j (h : j < (v :: ds).length), (cs.setIfInBounds z (.int .u8 (v.toNat : Int)))[i - 1 + j]? = some (.int .u8 ((v :: ds)[j].toNat : Int)) := by
  intro j hj
  cases j with
  | zero =>
    rw [Array.getElem?_setIfInBounds, if_pos (by omega), if_pos hs]
    rfl
  | succ j =>
    rw [Array.getElem?_setIfInBounds, if_neg (by omega)]
    have := h j (by simpa using hj)
    rw [show i - 1 + (j + 1) = i + j by omega, this]
    rfl
set_option maxHeartbeats 2000000 in
set_option maxRecDepth 100000 in
theorem fb16 (u : Nat) (hu : u < 18446744073709551616) (w : World) (h : w.cell? ⟨6, 15, none⟩ = some (.int .u8 4)) : Calls Tryd.prog 88 #[.slice none 0 0, .int .u64 (u : Int), .int .i64 16, .bool false, .bool false] w fun e w' =>
    (∃ v, e = .returned (.tuple #[v, .string ⟨(hexL u).toArray⟩])) ∧ Below w.heap.size w w' := by
  have H := Aside0.mk h
  have HU := Aside0.mk hu
  obtain ⟨x, hx⟩ : ∃ x : Int, x = u := ⟨_, rfl⟩
  rw [← hx]
  have HX := Aside0.mk hx
  have x0 : 0 ≤ x := by omega
  have x1 : x < 18446744073709551616 := by omega
  clear h hu hx
  go_enter Tryd.func88, Tryd.ntmps88
  go_wp2_with (first
    | ((with_reducible refine gate_dst (N := 12) rfl ?_); refine box_event ?hg (N := 12) ?hd (cs := Tryd.zeroCells132) (t := 132) ?hr ?_; (case hd => rfl); (case hg => rfl); (case hr => first | (go_simp; done) | (go_simp; rfl)); intro g hg w1 hbox hb; have HB := Aside0.mk hb; have BK := Aside0.mk hbox; have GE : Aside0 (w.heap.size ≤ g) := ⟨by rw [hg]; exact Nat.le_refl _⟩; have H1 := Aside0.mk ((hb.cell (p := ⟨6, 15, none⟩) (World.block_lt_of_cell? w _ H.out)).trans H.out); clear hb hbox hg)
    | (go_at_call 104; refine (pow2 _).mono ?_; rintro e w' ⟨rfl, rfl⟩)
    | (go_at_call 105; refine (tz16u _ H1.out).mono ?_; rintro e w' ⟨rfl, rfl⟩))
  go_loopw [1, 13] (fun v1 v13 wx => ∃ (y z : Int) (a i : Nat) (ds : List UInt8) (cs : Array Value), v1 = .int .u64 y ∧ v13 = .int .i64 z ∧ 0 ≤ y ∧ y < 18446744073709551616 ∧ 50 ≤ z ∧ z ≤ 65 ∧ Aside0 (y = a ∧ z = i ∧ hexL u = hexL a ++ ds ∧ i + ds.length = 65 ∧ a < 16 ^ (16 - ds.length) ∧ ds.length ≤ 15) ∧ Aside0 (wx.heap[g]? = some (.cells cs 132 (0, 0)) ∧ cs.size = 65 ∧ ∀ j (h : j < ds.length), cs[i + j]? = some (.int .u8 (ds[j].toNat : Int))) ∧ Aside0 (Below w.heap.size w wx)) (fun v1 _ _ => (intOf v1).toNat)
  case atStart => exact ⟨x, 65, u, 65, [], _, rfl, rfl, x0, x1, by omega, by omega, ⟨HX.out, rfl, by simp, rfl, HU.out, by simp⟩, ⟨BK.out, by kernel_rfl, fun j h => by simp at h⟩, HB⟩
  case round =>
    clear HB BK H1 x0 x1
    obtain ⟨y, z, a, i, ds, cs, rfl, rfl, y0, y1, z0, z1, HK, HC, HB⟩ := hrel
    have e15 : Go.bits .and .u64 y 15 = y % 16 := by
      have := bits_mask .u64 64 (by decide) (fun n h0 h1 => by rw [IntKind.wrap_u64]; omega) 4 (by decide) y y0 (by omega)
      simpa using this
    by_cases h16 : 16 ≤ y
    · have d1 : decide (16 ≤ y) = true := decide_eq_true h16
      have m0 : 0 ≤ y % 16 := by omega
      have m1 : y % 16 < 36 := by omega
      have HI : Aside0 (∀ h : (y % 16).toNat < DIGS.size, DIGS[(y % 16).toNat] = hexDig (a % 16)) := ⟨dig_int (y % 16) (a % 16) (by have := HK.out.1; omega) (Nat.mod_lt _ (by decide))⟩
      obtain ⟨v0, hv0⟩ : ∃ v0, cs[z.toNat - 1]? = some v0 := ⟨_, Array.getElem?_eq_getElem (by have := HC.out.2.1; omega)⟩
      have hcz : wr.cell? ⟨g, z.toNat - 1, none⟩ = some v0 := (blk_cell HC.out.1 _).trans hv0
      have hfz := blk_frozen HC.out.1 (z.toNat - 1)
      clear hv0
      have HY := Aside0.mk h16
      clear h16
      have hD := HI.out
      unfold DIGS at hD
      go_wp2
      refine ⟨⟨y / 16, z - 1, a / 16, i - 1, hexDig (a % 16) :: ds, _, rfl, rfl, by omega, by omega, ?_, by omega, ⟨by have := HK.out.1; omega, by have := HK.out.2.1; omega, ?_, ?_, ?_, ?_⟩, ⟨blk_set HC.out.1 _ _, ?_, ?_⟩, ⟨below_set HB.out GE.out⟩⟩, by have := HY.out; simp [intOf]; omega⟩
      · have := HK.out.2.1; have := len_small HK.out.1 HY.out HK.out.2.2.2.2.1; have := HK.out.2.2.2.1; omega
      · rw [HK.out.2.2.1, hexL, if_neg (by have := HK.out.1; have := HY.out; omega)]; simp
      · have := HK.out.2.2.2.1; have := HK.out.2.1; simp; omega
      · have h1 := len_small HK.out.1 HY.out HK.out.2.2.2.2.1
        have h2 := HK.out.2.2.2.2.1
        rw [List.length_cons]
        rw [show 16 - ds.length = (16 - (ds.length + 1)) + 1 by omega, Nat.pow_succ] at h2
        exact Nat.div_lt_of_lt_mul (by omega)
      · have := len_small HK.out.1 HY.out HK.out.2.2.2.2.1; simp; omega
      · rw [Array.size_setIfInBounds]; exact HC.out.2.1
      · exact cells_step HC.out.2.2 (by have := HK.out.2.1; omega) (by have := HC.out.2.1; have := HK.out.2.1; omega)
    · have d1 : decide (16 ≤ y) = false := decide_eq_false h16
      have m1 : y < 36 := by omega
      have HI : Aside0 (∀ h : y.toNat < DIGS.size, DIGS[y.toNat] = hexDig a) := ⟨dig_int y a HK.out.1 (by have := HK.out.1; omega)⟩
      obtain ⟨v0, hv0⟩ : ∃ v0, cs[z.toNat - 1]? = some v0 := ⟨_, Array.getElem?_eq_getElem (by have := HC.out.2.1; omega)⟩
      have hcz : wr.cell? ⟨g, z.toNat - 1, none⟩ = some v0 := (blk_cell HC.out.1 _).trans hv0
      have hfz := blk_frozen HC.out.1 (z.toNat - 1)
      clear hv0
      have hD := HI.out
      unfold DIGS at hD
      have HA := Aside0.mk (show a < 16 by have := HK.out.1; omega)
      have hsl : ∀ W : World, (Instr.sliceAt 132 (.pointer (some ⟨g, 0, none⟩)) (some (.int .i64 (z - 1))) none none).run Tryd.prog W = .ok (.slice (some ⟨g, i - 1, none⟩) (65 - (i - 1)) (65 - (i - 1))) W := fun W => by
        have ea : Tryd.prog.arrayLen 132 = 65 := by kernel_rfl
        have ht : Tryd.prog.underlying 132 = some (.array (Tryd.prog.arrayLen 132) (Tryd.prog.elem 132)) := by kernel_rfl
        have hsz : (sizeOf (Tryd.prog.elem 132)).run Tryd.prog W = .ok 1 W := by kernel_rfl
        rw [run_sliceAt_array_l W 132 ⟨g, 0, none⟩ ht .i64 (z - 1) (by omega) (by rw [ea]; omega), hsz, ea]
        have e1 : (z - 1).toNat = i - 1 := by have := HK.out.2.1; omega
        simp only [Result.andThen_ok, slicedAt, e1]
        rw [if_neg (by have := HK.out.2.1; omega)]
        simp [Addr.add]
        have := HK.out.2.1
        omega
      have hcs := cells_step (v := hexDig a) HC.out.2.2 (i := i) (z := z.toNat - 1) (by have := HK.out.2.1; omega) (by have := HC.out.2.1; have := HK.out.2.1; omega)
      have hcv := string_of_reads (P := Tryd.prog) (w := wr.setCell ⟨g, z.toNat - 1, none⟩ (.int .u8 ((hexDig a).toNat : Int))) (src := 86) (dst := 9) (e := 5) (A := some ⟨g, i - 1, none⟩) (n := 65 - (i - 1)) (c := 65 - (i - 1)) (xs := nm (hexDig a :: ds)) Tryd.underlying86 Tryd.underlying5 Tryd.underlying9
        ⟨by rw [nm_length, List.length_cons]; have := HK.out.2.2.2.1; have := HK.out.2.1; omega, by omega, fun _ => ⟨_, rfl, fun j hj => by
          have hj' : j < (hexDig a :: ds).length := by rw [List.length_cons]; have := HK.out.2.2.2.1; have := HK.out.2.1; omega
          have hb := blk_cell (blk_set HC.out.1 (z.toNat - 1) (.int .u8 ((hexDig a).toNat : Int))) (i - 1 + j)
          have he : nm (hexDig a :: ds) = (hexDig a :: ds).map (fun c => (c.toNat : Int)) := rfl
          have hadd : (⟨g, i - 1, none⟩ : Addr).add j = ⟨g, i - 1 + j, none⟩ := by simp [Addr.add]
          rw [hadd, hb, hcs j hj', he]
          rw [List.getD, List.getElem?_map, List.getElem?_eq_getElem hj']
          rfl⟩⟩
      clear hcs
      go_wp2
      go_ret2
      refine ⟨⟨.slice none 0 0, ?_⟩, below_set HB.out GE.out⟩
      rw [str_nm, HK.out.2.2.1, hexL, if_pos HA.out]
      rfl
/-- The one place of the library's table of trailing zeros that is read. -/
def LexD (w : World) : Prop := w.cell? ⟨6, 15, none⟩ = some (.int .u8 4)
theorem LexD.below {w w' : World} (h : LexD w) (hb : Below w.heap.size w w') : LexD w' := (hb.cell (p := ⟨6, 15, none⟩) (World.block_lt_of_cell? w _ h)).trans h
set_option maxHeartbeats 1000000 in
set_option maxRecDepth 100000 in
theorem fu16i (u : Nat) (hu : u < 18446744073709551616) (w : World) (h : LexD w) : Calls Tryd.prog 71 #[.int .u64 (u : Int), .int .i64 16] w fun e w' => e = .returned (.string ⟨(hexL u).toArray⟩) ∧ Below w.heap.size w w' := by
  have c := fb16 u hu w h
  obtain ⟨x, hx⟩ : ∃ x : Int, x = u := ⟨_, rfl⟩
  rw [← hx] at c ⊢
  have x0 : 0 ≤ x := by omega
  have x1 : x < 18446744073709551616 := by omega
  clear hx hu
  go_enter Tryd.func71, Tryd.ntmps71
  go_wp2_with (go_at_call 88; refine c.mono ?_; rintro e w' ⟨⟨v, rfl⟩, hb⟩; have HB := Aside0.mk hb; clear hb)
  go_ret
  exact ⟨rfl, HB.out⟩
set_option maxHeartbeats 1000000 in
set_option maxRecDepth 100000 in
theorem fu16 (u : Nat) (hu : u < 18446744073709551616) (w : World) (h : LexD w) : Calls Tryd.prog 55 #[.int .u64 (u : Int), .int .i64 16] w fun e w' => e = .returned (.string ⟨(hexL u).toArray⟩) ∧ Below w.heap.size w w' := by
  have c := fu16i u hu w h
  obtain ⟨x, hx⟩ : ∃ x : Int, x = u := ⟨_, rfl⟩
  rw [← hx] at c ⊢
  have x0 : 0 ≤ x := by omega
  have x1 : x < 18446744073709551616 := by omega
  clear hx hu
  go_enter Tryd.func55, Tryd.ntmps55
  go_wp2_with (go_at_call 71; refine c.mono ?_; rintro e w' ⟨rfl, hb⟩; have HB := Aside0.mk hb; clear hb)
  go_ret
  exact ⟨rfl, HB.out⟩
theorem hexL_pad : ∀ (k n : Nat), n < 16 ^ (k + 1) → hexPad (k + 1) n = List.replicate (k + 1 - (hexL n).length) 48 ++ hexL n ∧ (hexL n).length ≤ k + 1
  | 0, n, h => by
    rw [hexL, if_pos (by simpa using h)]
    simp [hexPad, Nat.mod_eq_of_lt (show n < 16 by simpa using h)]
  | k + 1, n, h => by
    rw [hexPad]
    by_cases h16 : n < 16
    · have e := hexL_pad k 0 (Nat.pow_pos (by decide))
      rw [Nat.div_eq_of_lt h16, e.1, Nat.mod_eq_of_lt h16]
      rw [show hexL 0 = [48] by rw [hexL, if_pos (by decide)]; rfl, show hexL n = [hexDig n] by rw [hexL, if_pos h16]]
      refine ⟨?_, by simp⟩
      simp only [List.length_singleton]
      rw [show k + 1 - 1 = k by omega, show k + 1 + 1 - 1 = k + 1 by omega, List.replicate_succ']
    · have e := hexL_pad k (n / 16) (by rw [Nat.div_lt_iff_lt_mul (by decide)]; rw [Nat.pow_succ] at h; exact h)
      rw [e.1, show hexL n = hexL (n / 16) ++ [hexDig (n % 16)] by rw [hexL, if_neg h16]]
      refine ⟨?_, by simp; exact e.2⟩
      simp only [List.length_append, List.length_singleton, List.append_assoc]
      rw [show k + 1 + 1 - ((hexL (n / 16)).length + 1) = k + 1 - (hexL (n / 16)).length by omega]
end Go.Proofs.YtgihgmniijhfoaaDoor.LexW
