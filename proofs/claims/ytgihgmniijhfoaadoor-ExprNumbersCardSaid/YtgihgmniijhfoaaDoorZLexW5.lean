/- lex: what its functions do, walked step by step. -/
import Derived.Test.YtgihgmniijhfoaaDoorZLexW0
import Derived.Test.YtgihgmniijhfoaaDoorProg
import Derived.Below
import Derived.Deep.Draws
import Derived.Deep.AppendLies
import Derived.Maps.AppendAt
import Derived.OwnWalk
import Derived.Laws.BytesArg
import Derived.Laws.MakeOwn
import Derived.Laws.OwnMore
import Derived.Deep.OwnRows
import Derived.Tactics
import Derived.Lib.ConvBytes
import Derived.Laws.Slices
import Derived.WalkKit
import Derived.KernelRfl
import Derived.RowKit3
import Derived.Deep.LoopGhost
import Derived.Deep.QuietTactic
import Derived.BigQuiet
import Derived.WideLaws
import Derived.Deep.DeepCutAuto
import Derived.Deep.CutBlock
import Derived.Deep.RegionHeld3
import Derived.Laws.Rows
import Derived.Lib.AppendStr
import Derived.ArgAppend
import Derived.Laws.IdiomCopy
import Derived.OrdersHeld
import Derived.Laws.BitsLemmas
import Derived.RowKit
import Derived.Lib.AppendIntMem
import Derived.Test.YtgihgmniijhfoaaDoorWWords
import Derived.Test.YtgihgmniijhfoaaDoorWLast
import Derived.Test.YtgihgmniijhfoaaDoorWTab
import Derived.Test.YtgihgmniijhfoaaDoorWFour
import Derived.Test.YtgihgmniijhfoaaDoorWQPut
import Derived.Test.YtgihgmniijhfoaaDoorWApart
import Derived.Test.YtgihgmniijhfoaaDoorWArr
import Derived.Test.YtgihgmniijhfoaaDoorWZeros
import Derived.Test.YtgihgmniijhfoaaDoorWFoot
import Derived.Test.YtgihgmniijhfoaaDoorWKept
import Derived.Test.YtgihgmniijhfoaaDoorWShare
import Derived.Test.YtgihgmniijhfoaaDoorWN
import Derived.Test.YtgihgmniijhfoaaDoorWFootNe
import Derived.Test.YtgihgmniijhfoaaDoorWAt
import Derived.Test.YtgihgmniijhfoaaDoorWEqStruct
import Derived.Test.YtgihgmniijhfoaaDoorWRepsOne
import Derived.Test.YtgihgmniijhfoaaDoorWInv
import Derived.Test.YtgihgmniijhfoaaDoorWInvWords
import Derived.Test.YtgihgmniijhfoaaDoorWGuard
import Derived.Test.YtgihgmniijhfoaaDoorWNEv
import Derived.Test.YtgihgmniijhfoaaDoorWMore
import Derived.Test.YtgihgmniijhfoaaDoorZLexW1
import Derived.Test.YtgihgmniijhfoaaDoorShelf
import Derived.Test.YtgihgmniijhfoaaDoorZLexW2
import Derived.Test.YtgihgmniijhfoaaDoorZLexW3
import Derived.Lib.AtoiAllMem
import Derived.Laws.Strings3
import Derived.Laws.Closers25
import Derived.Laws.Closers25b
import Derived.BigCall
import Derived.BigGuard
namespace Go.Proofs.YtgihgmniijhfoaaDoor.LexW
open Go.RowKit Go.Proofs.YtgihgmniijhfoaaDoorW.PrintWords Go.Proofs.YtgihgmniijhfoaaDoorW.PrintLast Go.Proofs.YtgihgmniijhfoaaDoorW.PrintMore Go.Proofs.YtgihgmniijhfoaaDoor.Lex
set_option linter.unusedVariables false
set_option linter.unusedSimpArgs false
theorem lower_calls (c l : Int) (w : World) (h : Go.bits .or .u8 c 32 = l) : Calls Tryd.prog 93 #[.int .u8 c] w fun e w' => e = .returned (.int .u8 l) ∧ w' = w := by
  subst h
  exact Tryd.internal_strconv_lower c w
theorem hex_lower (c : UInt8) (h : hexC c = true) (hd : digitC c = false) : Go.bits .or .u8 (c.toNat : Int) 32 = (hexVal c : Int) + 87 ∧ 10 ≤ hexVal c ∧ hexVal c < 16 ∧ c ≠ 95 ∧ (c.toNat < 48 ∨ 57 < c.toNat) := by
  have := Go.Proofs.YtgihgmniijhfoaaDoor.Lex.bytes (p := fun c => !hexC c || digitC c || (decide (Go.bits .or .u8 (c.toNat : Int) 32 = (hexVal c : Int) + 87) && decide (10 ≤ hexVal c) && decide (hexVal c < 16) && c != 95 && (decide (c.toNat < 48) || decide (57 < c.toNat)))) (by decide +kernel) c
  simp [h, hd] at this
  simp [this]
theorem dig_hex (c : UInt8) (hd : digitC c = true) : (hexVal c : Int) = (c.toNat : Int) - 48 ∧ 48 ≤ c.toNat ∧ c.toNat ≤ 57 ∧ c ≠ 95 := by
  have := Go.Proofs.YtgihgmniijhfoaaDoor.Lex.bytes (p := fun c => !digitC c || (decide ((hexVal c : Int) = (c.toNat : Int) - 48) && decide (48 ≤ c.toNat) && decide (c.toNat ≤ 57) && c != 95)) (by decide +kernel) c
  simp [hd] at this
  simp [this]
/-- What strconv's inner ParseUint hands back at base 16, where all bytes are digits. -/
def P16 (bs : List UInt8) (e : Ending) : Prop := (hexNat bs < 18446744073709551616 ∧ e = .returned (.tuple #[.int .u64 (hexNat bs : Nat), .nilIface])) ∨ (18446744073709551616 ≤ hexNat bs ∧ e = .returned (.tuple #[.int .u64 18446744073709551615, .iface 121 (.int .i64 1)]))
theorem hexNat_mono (a : List UInt8) : ∀ b : List UInt8, hexNat a ≤ hexNat (a ++ b) := by
  intro b
  induction b generalizing a with
  | nil => simp
  | cons c t ih =>
    have := ih (a ++ [c])
    rw [hexNat_snoc, List.append_assoc, List.singleton_append] at this
    omega
set_option maxHeartbeats 8000000 in
set_option maxRecDepth 100000 in
theorem pu16_inner (t : ByteArray) (hne : t.size ≠ 0) (hmax : t.size ≤ 1000000000000) (hall : ∀ c ∈ t.data.toList, hexC c = true) (w : World) :
    Calls Tryd.prog 80 #[.string t, .int .i64 16, .int .i64 64] w fun e w' => P16 t.data.toList e ∧ w' = Lib.bytesWorld w 5 t := by
  have hemp : t.toList.isEmpty = false := by
    rw [← decide_eq_emptyBytes]
    exact decide_eq_false (fun h => hne (by rw [h]; rfl))
  have hcv := Lib.run_convert_string_bytes (P := Tryd.prog) w 9 86 5 t (u := .string) Tryd.underlying9 Tryd.underlying86 Tryd.underlying5
  have hB : ∀ j, j < t.size → (Lib.bytesWorld w 5 t).cell? ⟨w.heap.size, j, none⟩ = some (.int .u8 (t.data.toList.getD j 0).toNat) := fun j hj => Lib.bytesWorld_cell w 5 t j hj
  obtain ⟨W1, hW1⟩ : ∃ W1, W1 = Lib.bytesWorld w 5 t := ⟨_, rfl⟩
  rw [← hW1] at hcv hB ⊢
  clear hW1
  have BB := Aside0.mk hB
  have HALL := Aside0.mk hall
  clear hB hall
  have hmv : IntKind.u64.wrap (IntKind.u64.wrap 18446744073709551616 - 1) = 18446744073709551615 := by
    rw [IntKind.wrap_u64, IntKind.wrap_u64]
    decide
  go_enter Tryd.func80, Tryd.ntmps80
  go_wp2
  clear hcv hemp
  go_loop [12, 13, 101] (fun vu vn vi => ∃ (k : Nat) (a : Int), vu = .bool false ∧ vn = .int .u64 a ∧ vi = .int .i64 (k : Int) ∧ Aside0 (k ≤ t.size ∧ a = (hexNat (t.data.toList.take k) : Nat)) ∧ 0 ≤ a ∧ a < 18446744073709551616) (fun _ _ vi => t.size - (intOf vi).toNat)
  case atStart => exact ⟨0, 0, rfl, rfl, rfl, ⟨by omega, rfl⟩, by omega, by omega⟩
  case round =>
    obtain ⟨k, a, rfl, rfl, rfl, HK, a0, a1⟩ := hrel
    by_cases hkn : k < t.size
    · have hc := BB.out k hkn
      have hkl : k < t.data.toList.length := by rw [Array.length_toList]; exact hkn
      have hget : t.data.toList.getD k 0 = t.data.toList[k] := by simp [List.getD, List.getElem?_eq_getElem hkl]
      have htake : t.data.toList.take (k + 1) = t.data.toList.take k ++ [t.data.toList[k]] := by rw [List.take_succ_eq_append_getElem hkl]
      have hhex := HALL.out _ (List.getElem_mem hkl)
      rw [hget] at hc
      have HT := Aside0.mk (show hexNat (t.data.toList.take (k + 1)) = hexNat (t.data.toList.take k) * 16 + hexVal t.data.toList[k] by rw [htake, hexNat_snoc])
      have hmono := hexNat_mono (t.data.toList.take (k + 1)) (t.data.toList.drop (k + 1))
      rw [List.take_append_drop] at hmono
      have HM := Aside0.mk hmono
      clear hget htake hmono
      generalize hcc : t.data.toList[k] = c at hc hhex HT
      clear hcc
      have hc256 : c.toNat < 256 := c.toNat_lt
      by_cases hcut : 1152921504606846976 ≤ a
      · have hR : 18446744073709551616 ≤ hexNat t.data.toList := by
          have := HK.out.2
          have := HT.out
          have := HM.out
          omega
        have HR := Aside0.mk hR
        clear hR
        by_cases hd : digitC c = true
        · obtain ⟨v1, v2, v3, v4⟩ := dig_hex c hd
          have t95 := u8_not v4 (n := 95) rfl
          clear v1 v4 hd hhex
          go_wp2
          go_ret2
          exact ⟨.inr ⟨HR.out, rfl⟩, rfl⟩
        · obtain ⟨v1, v2, v3, v4, v5⟩ := hex_lower c hhex (by simpa using hd)
          have t95 := u8_not v4 (n := 95) rfl
          obtain ⟨l, hl⟩ : ∃ l : Int, l = (hexVal c : Int) + 87 := ⟨_, rfl⟩
          rw [← hl] at v1
          have l0 : 97 ≤ l := by omega
          have l1 : l ≤ 102 := by omega
          have V1 := Aside0.mk v1
          clear v1 v2 v3 v4 hd hhex hl
          rcases v5 with v5 | v5
          · go_wp2_with (go_at_call 93; refine (lower_calls _ l _ V1.out).mono ?_; rintro e w' ⟨rfl, rfl⟩)
            go_ret2
            exact ⟨.inr ⟨HR.out, rfl⟩, rfl⟩
          · go_wp2_with (go_at_call 93; refine (lower_calls _ l _ V1.out).mono ?_; rintro e w' ⟨rfl, rfl⟩)
            go_ret2
            exact ⟨.inr ⟨HR.out, rfl⟩, rfl⟩
      · have icut : a < 1152921504606846976 := by omega
        clear hcut
        by_cases hd : digitC c = true
        · obtain ⟨v1, v2, v3, v4⟩ := dig_hex c hd
          have t95 := u8_not v4 (n := 95) rfl
          have V1 := Aside0.mk v1
          clear v1 v4 hd hhex
          go_wp2
          refine ⟨⟨k + 1, a * 16 + ((c.toNat : Int) - 48), rfl, (by first | rfl | (congr 1; omega)), (by first | rfl | (congr 1; omega)), ⟨by omega, by have := HK.out.2; have := HT.out; have := V1.out; omega⟩, by omega, by omega⟩, by simp [intOf]; omega⟩
        · obtain ⟨v1, v2, v3, v4, v5⟩ := hex_lower c hhex (by simpa using hd)
          have t95 := u8_not v4 (n := 95) rfl
          obtain ⟨l, hl⟩ : ∃ l : Int, l = (hexVal c : Int) + 87 := ⟨_, rfl⟩
          rw [← hl] at v1
          have l0 : 97 ≤ l := by omega
          have l1 : l ≤ 102 := by omega
          have V1 := Aside0.mk v1
          have HL := Aside0.mk hl
          clear v1 v2 v3 v4 hd hhex hl
          rcases v5 with v5 | v5
          · go_wp2_with (go_at_call 93; refine (lower_calls _ l _ V1.out).mono ?_; rintro e w' ⟨rfl, rfl⟩)
            refine ⟨⟨k + 1, a * 16 + (l - 97 + 10), rfl, (by first | rfl | (congr 1; omega)), (by first | rfl | (congr 1; omega)), ⟨by omega, by have := HK.out.2; have := HT.out; have := HL.out; omega⟩, by omega, by omega⟩, by simp [intOf]; omega⟩
          · go_wp2_with (go_at_call 93; refine (lower_calls _ l _ V1.out).mono ?_; rintro e w' ⟨rfl, rfl⟩)
            refine ⟨⟨k + 1, a * 16 + (l - 97 + 10), rfl, (by first | rfl | (congr 1; omega)), (by first | rfl | (congr 1; omega)), ⟨by omega, by have := HK.out.2; have := HT.out; have := HL.out; omega⟩, by omega, by omega⟩, by simp [intOf]; omega⟩
    · have hkk : k = t.size := by have := HK.out.1; omega
      have hf : a = (hexNat t.data.toList : Nat) := by
        rw [HK.out.2, hkk, List.take_of_length_le (by rw [Array.length_toList]; exact Nat.le_refl _)]
      have HF := Aside0.mk (show P16 t.data.toList (.returned (.tuple #[.int .u64 a, .nilIface])) from .inl ⟨by omega, by rw [hf]⟩)
      clear hf hkk
      go_wp2
      go_ret2
      exact ⟨HF.out, rfl⟩
end Go.Proofs.YtgihgmniijhfoaaDoor.LexW
