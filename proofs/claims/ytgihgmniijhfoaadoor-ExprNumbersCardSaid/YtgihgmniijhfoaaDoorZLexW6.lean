/- lex: what its functions do, walked step by step. -/
import Derived.Test.YtgihgmniijhfoaaDoorZLexW0
import Derived.Test.YtgihgmniijhfoaaDoorProg
import Derived.Below
import Derived.Deep.Draws
import Derived.Deep.AppendLies
import Derived.Maps.AppendAt
import Derived.OwnWalk
import Derived.Laws.BytesArg
import Derived.Laws.MakeOwn
import Derived.Laws.OwnMore
import Derived.Deep.OwnRows
import Derived.Tactics
import Derived.Lib.ConvBytes
import Derived.Laws.Slices
import Derived.WalkKit
import Derived.KernelRfl
import Derived.RowKit3
import Derived.Deep.LoopGhost
import Derived.Deep.QuietTactic
import Derived.BigQuiet
import Derived.WideLaws
import Derived.Deep.DeepCutAuto
import Derived.Deep.CutBlock
import Derived.Deep.RegionHeld3
import Derived.Laws.Rows
import Derived.Lib.AppendStr
import Derived.ArgAppend
import Derived.Laws.IdiomCopy
import Derived.OrdersHeld
import Derived.Laws.BitsLemmas
import Derived.RowKit
import Derived.Lib.AppendIntMem
import Derived.Test.YtgihgmniijhfoaaDoorWWords
import Derived.Test.YtgihgmniijhfoaaDoorWLast
import Derived.Test.YtgihgmniijhfoaaDoorWTab
import Derived.Test.YtgihgmniijhfoaaDoorWFour
import Derived.Test.YtgihgmniijhfoaaDoorWQPut
import Derived.Test.YtgihgmniijhfoaaDoorWApart
import Derived.Test.YtgihgmniijhfoaaDoorWArr
import Derived.Test.YtgihgmniijhfoaaDoorWZeros
import Derived.Test.YtgihgmniijhfoaaDoorWFoot
import Derived.Test.YtgihgmniijhfoaaDoorWKept
import Derived.Test.YtgihgmniijhfoaaDoorWShare
import Derived.Test.YtgihgmniijhfoaaDoorWN
import Derived.Test.YtgihgmniijhfoaaDoorWFootNe
import Derived.Test.YtgihgmniijhfoaaDoorWAt
import Derived.Test.YtgihgmniijhfoaaDoorWEqStruct
import Derived.Test.YtgihgmniijhfoaaDoorWRepsOne
import Derived.Test.YtgihgmniijhfoaaDoorWInv
import Derived.Test.YtgihgmniijhfoaaDoorWInvWords
import Derived.Test.YtgihgmniijhfoaaDoorWGuard
import Derived.Test.YtgihgmniijhfoaaDoorWNEv
import Derived.Test.YtgihgmniijhfoaaDoorWMore
import Derived.Test.YtgihgmniijhfoaaDoorZLexW1
import Derived.Test.YtgihgmniijhfoaaDoorShelf
import Derived.Test.YtgihgmniijhfoaaDoorZLexW2
import Derived.Test.YtgihgmniijhfoaaDoorZLexW3
import Derived.Lib.AtoiAllMem
import Derived.Laws.Strings3
import Derived.Laws.Closers25
import Derived.Laws.Closers25b
import Derived.BigCall
import Derived.BigGuard
import Derived.Test.YtgihgmniijhfoaaDoorZLexW5
namespace Go.Proofs.YtgihgmniijhfoaaDoor.LexW
open Go.RowKit Go.Proofs.YtgihgmniijhfoaaDoorW.PrintWords Go.Proofs.YtgihgmniijhfoaaDoorW.PrintLast Go.Proofs.YtgihgmniijhfoaaDoorW.PrintMore Go.Proofs.YtgihgmniijhfoaaDoor.Lex
set_option linter.unusedVariables false
set_option linter.unusedSimpArgs false
/-- The library's two errors as its variables hold them. -/
def LexE (w : World) : Prop := (∃ ev, w.cell? ⟨2, 0, none⟩ = some ev ∧ (ev = .nilIface ∨ ∃ te pe, ev = .iface te pe)) ∧ (∃ ev, w.cell? ⟨3, 0, none⟩ = some ev ∧ (ev = .nilIface ∨ ∃ te pe, ev = .iface te pe))
theorem LexE.below {w w' : World} (h : LexE w) (hb : Below w.heap.size w w') : LexE w' := by
  obtain ⟨⟨e1, c1, h1⟩, ⟨e2, c2, h2⟩⟩ := h
  exact ⟨⟨e1, (hb.cell (p := ⟨2, 0, none⟩) (World.block_lt_of_cell? w _ c1)).trans c1, h1⟩, ⟨e2, (hb.cell (p := ⟨3, 0, none⟩) (World.block_lt_of_cell? w _ c2)).trans c2, h2⟩⟩
set_option maxHeartbeats 1000000 in
set_option maxRecDepth 100000 in
theorem pu_ok (t : ByteArray) (u : Int) (w : World) (h : Calls Tryd.prog 80 #[.string t, .int .i64 16, .int .i64 64] w fun e w' => e = .returned (.tuple #[.int .u64 u, .nilIface]) ∧ Below w.heap.size w w') :
    Calls Tryd.prog 65 #[.string t, .int .i64 16, .int .i64 64] w fun e w' => e = .returned (.tuple #[.int .u64 u, .nilIface]) ∧ Below w.heap.size w w' := by
  go_enter Tryd.func65, Tryd.ntmps65
  go_wp2_with (go_at_call 80; refine h.mono ?_; rintro e W1 ⟨rfl, hW⟩)
  go_ret2
  exact ⟨rfl, hW⟩
set_option maxHeartbeats 1000000 in
set_option maxRecDepth 100000 in
theorem pu_err (t : ByteArray) (ht : t.size ≤ 1000000000000) (u k : Int) (hk : k = 1 ∨ k = 2) (w : World) (hE : LexE w) (h : Calls Tryd.prog 80 #[.string t, .int .i64 16, .int .i64 64] w fun e w' => e = .returned (.tuple #[.int .u64 u, .iface 121 (.int .i64 k)]) ∧ Below w.heap.size w w') :
    Calls Tryd.prog 65 #[.string t, .int .i64 16, .int .i64 64] w fun e w' => ∃ v, e = .returned (.tuple #[.int .u64 u, v]) ∧ Below w.heap.size w w' := by
  have HE := Aside0.mk hE
  clear hE
  rcases hk with rfl | rfl
  · go_enter Tryd.func65, Tryd.ntmps65
    go_wp2_with (go_at_call 80; refine h.mono ?_; rintro e W1 ⟨rfl, hW⟩)
    obtain ⟨ev, hv, hev⟩ := (HE.out.below hW).2
    go_wp2_with (go_at_call 81; refine (Tryd.strconv_toError_range ⟨#[80, 97, 114, 115, 101, 85, 105, 110, 116]⟩ t 16 64 ev _ (by omega) hv hev).mono ?_)
    rintro e W2 ⟨N, rfl, h1, h2, h3⟩
    go_wp2
    go_ret2
    exact ⟨_, rfl, below_step hW h3⟩
  · go_enter Tryd.func65, Tryd.ntmps65
    go_wp2_with (go_at_call 80; refine h.mono ?_; rintro e W1 ⟨rfl, hW⟩)
    obtain ⟨ev, hv, hev⟩ := (HE.out.below hW).1
    go_wp2_with (go_at_call 81; refine (Tryd.strconv_toError_syntax ⟨#[80, 97, 114, 115, 101, 85, 105, 110, 116]⟩ t 16 64 ev _ (by omega) hv hev).mono ?_)
    rintro e W2 ⟨N, rfl, h1, h2, h3⟩
    go_wp2
    go_ret2
    exact ⟨_, rfl, below_step hW h3⟩
/-- strconv.ParseUint at base 16, where all bytes are digits: at most 16 of them are a number; else whatever comes, it comes back. -/
theorem pu16 (t : ByteArray) (ht : t.size ≤ 1000000000000) (hall : ∀ c ∈ t.data.toList, hexC c = true) (w : World) (hE : LexE w) :
    Calls Tryd.prog 65 #[.string t, .int .i64 16, .int .i64 64] w fun e w' => ∃ u v, e = .returned (.tuple #[.int .u64 u, v]) ∧ (t.size ≠ 0 → t.size ≤ 16 → u = (hexNat t.data.toList : Nat) ∧ v = .nilIface) ∧ Below w.heap.size w w' := by
  by_cases h0 : t.size = 0
  · obtain rfl : t = ⟨#[]⟩ := by
      apply ByteArray.ext
      exact Array.eq_empty_of_size_eq_zero h0
    refine (pu_err _ ht 0 2 (.inr rfl) w hE ((Tryd.internal_strconv_ParseUint_empty 16 64 w).mono ?_)).mono ?_
    · rintro e w' ⟨rfl, rfl⟩
      exact ⟨rfl, Below.refl _ _⟩
    · rintro e w' ⟨v, rfl, hb⟩
      exact ⟨_, _, rfl, fun h => absurd h0 h, hb⟩
  · have hb := Lib.bytesWorld_below w 5 t
    by_cases hx : hexNat t.data.toList < 18446744073709551616
    · refine (pu_ok t (hexNat t.data.toList : Nat) w ((pu16_inner t h0 ht hall w).mono ?_)).mono ?_
      · rintro e w' ⟨h, rfl⟩
        rcases h with ⟨_, rfl⟩ | ⟨h, _⟩
        · exact ⟨rfl, hb⟩
        · omega
      · rintro e w' ⟨rfl, hb⟩
        exact ⟨_, _, rfl, fun _ _ => ⟨rfl, rfl⟩, hb⟩
    · refine (pu_err t ht 18446744073709551615 1 (.inl rfl) w hE ((pu16_inner t h0 ht hall w).mono ?_)).mono ?_
      · rintro e w' ⟨h, rfl⟩
        rcases h with ⟨h, _⟩ | ⟨_, rfl⟩
        · omega
        · exact ⟨rfl, hb⟩
      · rintro e w' ⟨v, rfl, hb⟩
        refine ⟨_, _, rfl, fun _ h16 => ?_, hb⟩
        have h1 := hexNat_lt t.data.toList hall
        have h2 : t.data.toList.length ≤ 16 := by rw [Array.length_toList]; exact h16
        have h3 := Nat.lt_of_lt_of_le h1 (Nat.le_trans (Nat.pow_le_pow_right (by decide) h2) (show 16 ^ 16 ≤ 18446744073709551616 by decide))
        exact absurd h3 hx
end Go.Proofs.YtgihgmniijhfoaaDoor.LexW
