/- lex: what its functions do, walked step by step. -/
import Derived.Test.YtgihgmniijhfoaaDoorZLexW0
import Derived.Test.YtgihgmniijhfoaaDoorProg
import Derived.Below
import Derived.Deep.Draws
import Derived.Deep.AppendLies
import Derived.Maps.AppendAt
import Derived.OwnWalk
import Derived.Laws.BytesArg
import Derived.Laws.MakeOwn
import Derived.Laws.OwnMore
import Derived.Deep.OwnRows
import Derived.Tactics
import Derived.Lib.ConvBytes
import Derived.Laws.Slices
import Derived.WalkKit
import Derived.KernelRfl
import Derived.RowKit3
import Derived.Deep.LoopGhost
import Derived.Deep.QuietTactic
import Derived.BigQuiet
import Derived.WideLaws
import Derived.Deep.DeepCutAuto
import Derived.Deep.CutBlock
import Derived.Deep.RegionHeld3
import Derived.Laws.Rows
import Derived.Lib.AppendStr
import Derived.ArgAppend
import Derived.Laws.IdiomCopy
import Derived.OrdersHeld
import Derived.Laws.BitsLemmas
import Derived.RowKit
import Derived.Lib.AppendIntMem
import Derived.Test.YtgihgmniijhfoaaDoorWWords
import Derived.Test.YtgihgmniijhfoaaDoorWLast
import Derived.Test.YtgihgmniijhfoaaDoorWTab
import Derived.Test.YtgihgmniijhfoaaDoorWFour
import Derived.Test.YtgihgmniijhfoaaDoorWQPut
import Derived.Test.YtgihgmniijhfoaaDoorWApart
import Derived.Test.YtgihgmniijhfoaaDoorWArr
import Derived.Test.YtgihgmniijhfoaaDoorWZeros
import Derived.Test.YtgihgmniijhfoaaDoorWFoot
import Derived.Test.YtgihgmniijhfoaaDoorWKept
import Derived.Test.YtgihgmniijhfoaaDoorWShare
import Derived.Test.YtgihgmniijhfoaaDoorWN
import Derived.Test.YtgihgmniijhfoaaDoorWFootNe
import Derived.Test.YtgihgmniijhfoaaDoorWAt
import Derived.Test.YtgihgmniijhfoaaDoorWEqStruct
import Derived.Test.YtgihgmniijhfoaaDoorWRepsOne
import Derived.Test.YtgihgmniijhfoaaDoorWInv
import Derived.Test.YtgihgmniijhfoaaDoorWInvWords
import Derived.Test.YtgihgmniijhfoaaDoorWGuard
import Derived.Test.YtgihgmniijhfoaaDoorWNEv
import Derived.Test.YtgihgmniijhfoaaDoorWMore
namespace Go.Proofs.YtgihgmniijhfoaaDoor.LexW
open Go.RowKit Go.Proofs.YtgihgmniijhfoaaDoorW.PrintWords Go.Proofs.YtgihgmniijhfoaaDoorW.PrintLast Go.Proofs.YtgihgmniijhfoaaDoorW.PrintMore Go.Proofs.YtgihgmniijhfoaaDoor.Lex
set_option linter.unusedVariables false
set_option linter.unusedSimpArgs false
def nm (b : List UInt8) : List Int := b.map fun c => (c.toNat : Int)
theorem bd_inj {c n : Int} (h : (DataW.lit (.int .u8 c) : DataW Unit) = bd n) : c = n := by
  unfold bd at h
  injection h with h
  injection h
theorem nm_length (b : List UInt8) : (nm b).length = b.length := List.length_map ..
theorem nm_snoc (b : List UInt8) (c : UInt8) : nm (b ++ [c]) = nm b ++ [(c.toNat : Int)] := by simp [nm]
theorem infoB : (Tryd.prog.info? 5).map (fun i => (i.zero, i.size, i.bytes)) = some (some (.int .u8 0), 1, 1) := by kernel_rfl
theorem str_nm (b : List UInt8) : strOfNums (nm b) = ⟨b.toArray⟩ := by
  unfold strOfNums nm
  rw [List.map_map]
  congr 2
  conv => rhs; rw [← List.map_id b]
  refine List.map_congr_left fun c _ => ?_
  simp
theorem u8_is {c d : UInt8} {n : Int} (h : c = d) (hd : (d.toNat : Int) = n) : (((c.toNat : Nat) : Int) == n) = true := by
  subst h
  exact beq_iff_eq.2 hd
theorem u8_not {c d : UInt8} {n : Int} (h : c ≠ d) (hd : (d.toNat : Int) = n) : (((c.toNat : Nat) : Int) == n) = false :=
  beq_eq_false_iff_ne.2 fun e => h (UInt8.toNat_inj.1 (by omega))
theorem drop_at (s : ByteArray) (k : Nat) (hk : k < s.size) : s.data.toList.drop k = s[k] :: s.data.toList.drop (k + 1) := by
  have h : k < s.data.toList.length := by simpa using hk
  rw [List.drop_eq_getElem_cons h]
  rfl
theorem drop_end (s : ByteArray) (k : Nat) (hk : ¬ k < s.size) : s.data.toList.drop k = [] := List.drop_eq_nil_of_le (by rw [Array.length_toList]; exact Nat.le_of_not_lt hk)
theorem ret2 {a a' : ByteArray} {b b' : Int} (h : a = a') (h' : b = b') : Ending.returned (.tuple #[.string a, .int .i64 b]) = Ending.returned (.tuple #[.string a', .int .i64 b']) := by rw [h, h']
set_option maxHeartbeats 1000000 in
set_option maxRecDepth 100000 in
theorem quoted_calls (s : ByteArray) (hs : s.size ≤ 1000000000000) (w : World) : Calls Tryd.prog 46 #[.string s] w fun e w' =>
    e = .returned (.tuple #[.string ⟨(quotedL s.data.toList 0 []).1.toArray⟩, .int .i64 ((quotedL s.data.toList 0 []).2 : Nat)]) ∧ Below w.heap.size w w' := by
  obtain ⟨res, hres⟩ : ∃ r, r = quotedL s.data.toList 0 [] := ⟨_, rfl⟩
  rw [← hres]
  have RES := Aside0.mk hres
  clear hres
  go_enter Tryd.func46, Tryd.ntmps46
  go_wp2_with (go_at_call 62; refine (signs_calls _).mono ?_; rintro e w1 ⟨rfl, hsig, hb⟩; have HS := Aside0.mk hsig; have HB := Aside0.mk hb; clear hsig hb)
  go_loopw [4, 6] (fun v4 v6 wx => ∃ (k : Nat) (b : List UInt8), v6 = .int .i64 (k : Int) ∧ Aside0 (k ≤ s.size ∧ b.length ≤ k ∧ quotedL (s.data.toList.drop k) k b = res) ∧ Aside0 (Kd.R (Kd.int .u8) 5 wx w.heap.size (fun q => q ≠ w.heap.size) v4 (nm b)) ∧ Aside0 (IsSig wx w.heap.size) ∧ Aside0 (Below w.heap.size w wx)) (fun _ v6 _ => s.size - (intOf v6).toNat)
  case atStart => exact ⟨0, [], rfl, ⟨Nat.zero_le _, Nat.zero_le _, by rw [RES.out]; rfl⟩, ⟨Kd.R_nil _ _ _ _ _⟩, HS, HB⟩
  case round =>
    clear RES HS HB
    obtain ⟨k, b, rfl, HK, HR, HS, HB⟩ := hrel
    by_cases hk : k < s.size
    · have hq := HK.out.2.2
      rw [drop_at s k hk] at hq
      by_cases h34 : s[k] = 34
      · have e34 : ((s[k].toNat : Int) == 34) = true := u8_is h34 rfl
        rw [h34, quoted_end] at hq
        have HQ := Aside0.mk hq
        clear hq h34
        have hcv := own_string (P := Tryd.prog) Tryd.underlying86 Tryd.underlying5 Tryd.underlying9 (Kd.own_of_R HR.out)
        go_wp2
        go_ret2
        exact ⟨ret2 (by rw [str_nm, ← HQ.out]) (by rw [← HQ.out]; rfl), HB.out⟩
      have e34 : ((s[k].toNat : Int) == 34) = false := u8_not h34 rfl
      by_cases h92 : s[k] = 92
      · have e92 : ((s[k].toNat : Int) == 92) = true := u8_is h92 rfl
        by_cases hk1 : k + 1 < s.size
        · rw [drop_at s (k + 1) hk1, quotedL, if_neg h34, if_pos h92] at hq
          have e1 : ((k : Int) + 1 == (s.size : Int)) = false := beq_eq_false_iff_ne.2 (by omega)
          cases hx : escL s[k + 1] with
          | none =>
            have hh : Maps.has SIGD (bk (s[k + 1].toNat : Int)) = false := ((sig_at s[k + 1] (bd 0)).2 hx).1
            rw [hx] at hq
            have HQ := Aside0.mk hq
            clear hq h34 h92 hx
            go_wp2_with (at_lookup; refine wpList_lookup_own_ok_int _ rfl _ _ 88 rfl 5 5 .u8 byteLaw Tryd.underlying88 Tryd.underlying5 (zeroB _) w.heap.size 5 SIGD rfl HS.out _ _ rfl (byteKey _ (by omega) (by have := s[k + 1].toNat_lt; omega)) ?_; intro c hat hwc; clear hat hwc)
            go_ret2
            exact ⟨ret2 (by rw [← HQ.out]) (by rw [← HQ.out]; rfl), HB.out⟩
          | some y =>
            obtain ⟨hh, hat0⟩ := (sig_at s[k + 1] (bd 0)).1 y hx
            
            rw [hx] at hq
            have HQ := Aside0.mk hq
            have HA := Aside0.mk hat0
            clear hq h34 h92 hx hat0
            have hy : y.toNat < 256 := y.toNat_lt
            go_wp2_with (first
              | (at_lookup; refine wpList_lookup_own_ok_int _ rfl _ _ 88 rfl 5 5 .u8 byteLaw Tryd.underlying88 Tryd.underlying5 (zeroB _) w.heap.size 5 SIGD rfl HS.out _ _ rfl (byteKey _ (by omega) (by have := s[k + 1].toNat_lt; omega)) ?_; intro c hat hwc; obtain rfl := bd_inj (hat.symm.trans HA.out); clear hat hwc)
              | ((with_reducible refine gate_builtin (b := .append) (xs := #[.tmp 50, .tmp 52]) rfl ?_); at_builtin; refine Kd.R_append (Kd.int .u8) (w0 := w) w.heap.size rfl (.tmp 50) (.tmp 52) 86 5 (.int .u8 0) 1 rfl Tryd.underlying86 infoB rfl (by decide) (by omega) u4 (nm b) (y.toNat : Int) [.int .u8 (y.toNat : Int)] (fun q => q ≠ w.heap.size) (fun _ => False) rfl rfl ?aP (fun _ hk => hk.elim) ?aF ?aO ?aB ?aS ?aL ?_; (case aP => exact rfl); (case aF => exact fun q hq => by have := HS.out.lt; omega); (case aO => exact HR.out); (case aB => exact HB.out); (case aS => exact below_size HB.out); (case aL => have := HK.out; rw [nm_length]; omega); intro v7 w7 ho hb hg _; have HR7 := Aside0.mk ho; have HB7 := Aside0.mk hb; have HS7 : Aside0 (IsSig w7 w.heap.size) := ⟨World.ownsMap.kept HS.out hg (fun e_ => HR.out.1 _ e_.symm rfl)⟩; clear ho hb hg))
            go_roundw
            case rel => exact ⟨k + 2, b ++ [y], by go_num, ⟨by omega, by have := HK.out; simp; omega, HQ.out⟩, ⟨by rw [nm_snoc]; exact HR7.out⟩, HS7, HB7⟩
            case measure => simp [intOf]; omega
        · rw [drop_end s (k + 1) hk1, h92] at hq
          have e1 : ((k : Int) + 1 == (s.size : Int)) = true := beq_iff_eq.2 (by omega)
          have HQ := Aside0.mk hq
          clear hq h34 h92
          go_wp2
          go_ret2
          exact ⟨ret2 (by rw [← HQ.out]; rfl) (by rw [← HQ.out]; rfl), HB.out⟩
      have e92 : ((s[k].toNat : Int) == 92) = false := u8_not h92 rfl
      by_cases hp : plainC s[k] = true
      · have hp' : 32 ≤ s[k].toNat ∧ s[k].toNat ≤ 126 := by
          simpa [plainC, UInt8.le_iff_toNat_le] using hp
        have d1 : decide ((s[k].toNat : Int) < 32) = false := decide_eq_false (by omega)
        have d2 : decide ((126 : Int) < (s[k].toNat : Int)) = false := decide_eq_false (by omega)
        have hnx : (s.data.toList.drop (k + 1) = [] ∧ res = ([], 0)) ∨ quotedL (s.data.toList.drop (k + 1)) (k + 1) (b ++ [s[k]]) = res := by
          by_cases hn : s.data.toList.drop (k + 1) = []
          · rw [hn, quotedL, if_neg h34] at hq
            exact .inl ⟨hn, hq.symm⟩
          · rw [quoted_plain hn h34 h92 hp] at hq
            exact .inr hq
        have hnx : quotedL (s.data.toList.drop (k + 1)) (k + 1) (b ++ [s[k]]) = res := by
          rcases hnx with ⟨h1, h2⟩ | h
          · rw [h1, h2]
            rfl
          · exact h
        have HQ := Aside0.mk hnx
        have HP := Aside0.mk hp'
        clear hq h34 h92 hp hp' hnx
        go_wp2_with ((with_reducible refine gate_builtin (b := .append) (xs := #[.tmp 20, .tmp 22]) rfl ?_); at_builtin; refine Kd.R_append (Kd.int .u8) (w0 := w) w.heap.size rfl (.tmp 20) (.tmp 22) 86 5 (.int .u8 0) 1 rfl Tryd.underlying86 infoB rfl (by decide) (by omega) u4 (nm b) (s[k].toNat : Int) [.int .u8 (s[k].toNat : Int)] (fun q => q ≠ w.heap.size) (fun _ => False) rfl rfl ?aP (fun _ hk => hk.elim) ?aF ?aO ?aB ?aS ?aL ?_; (case aP => exact rfl); (case aF => exact fun q hq => by have := HS.out.lt; omega); (case aO => exact HR.out); (case aB => exact HB.out); (case aS => exact below_size HB.out); (case aL => have := HK.out; rw [nm_length]; omega); intro v7 w7 ho hb hg _; have HR7 := Aside0.mk ho; have HB7 := Aside0.mk hb; have HS7 : Aside0 (IsSig w7 w.heap.size) := ⟨World.ownsMap.kept HS.out hg (fun e_ => HR.out.1 _ e_.symm rfl)⟩; clear ho hb hg)
        go_roundw
        case rel => exact ⟨k + 1, b ++ [s[k]], by go_num, ⟨by omega, by have := HK.out; simp; omega, HQ.out⟩, ⟨by rw [nm_snoc]; exact HR7.out⟩, HS7, HB7⟩
        case measure => simp [intOf]; omega
      · have hp' : s[k].toNat < 32 ∨ 126 < s[k].toNat := by
          have : ¬ (32 ≤ s[k].toNat ∧ s[k].toNat ≤ 126) := by simpa [plainC, UInt8.le_iff_toNat_le] using hp
          omega
        have hq' : res = ([], 0) := by
          rw [← hq]
          cases s.data.toList.drop (k + 1) with
          | nil => rw [quotedL, if_neg h34]
          | cons x t => rw [quotedL, if_neg h34, if_neg h92, if_neg hp]
        have HQ := Aside0.mk hq'
        clear hq h34 h92 hp hq'
        rcases hp' with hp' | hp'
        · have d1 : decide ((s[k].toNat : Int) < 32) = true := decide_eq_true (by omega)
          go_wp2
          go_ret2
          exact ⟨ret2 (by rw [HQ.out]) (by rw [HQ.out]; rfl), HB.out⟩
        · have d1 : decide ((s[k].toNat : Int) < 32) = false := decide_eq_false (by omega)
          have d2 : decide ((126 : Int) < (s[k].toNat : Int)) = true := decide_eq_true (by omega)
          go_wp2
          go_ret2
          exact ⟨ret2 (by rw [HQ.out]) (by rw [HQ.out]; rfl), HB.out⟩
    · have hq := HK.out.2.2
      rw [drop_end s k hk] at hq
      have HQ := Aside0.mk hq
      clear hq
      go_wp2
      go_ret2
      exact ⟨ret2 (by rw [← HQ.out]; rfl) (by rw [← HQ.out]; rfl), HB.out⟩
end Go.Proofs.YtgihgmniijhfoaaDoor.LexW
