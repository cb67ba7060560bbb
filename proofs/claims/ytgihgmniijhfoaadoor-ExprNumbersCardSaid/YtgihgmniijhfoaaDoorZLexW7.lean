/- lex: what its functions do, walked step by step. -/
import Derived.Test.YtgihgmniijhfoaaDoorZLexW0
import Derived.Test.YtgihgmniijhfoaaDoorProg
import Derived.Below
import Derived.Deep.Draws
import Derived.Deep.AppendLies
import Derived.Maps.AppendAt
import Derived.OwnWalk
import Derived.Laws.BytesArg
import Derived.Laws.MakeOwn
import Derived.Laws.OwnMore
import Derived.Deep.OwnRows
import Derived.Tactics
import Derived.Lib.ConvBytes
import Derived.Laws.Slices
import Derived.WalkKit
import Derived.KernelRfl
import Derived.RowKit3
import Derived.Deep.LoopGhost
import Derived.Deep.QuietTactic
import Derived.BigQuiet
import Derived.WideLaws
import Derived.Deep.DeepCutAuto
import Derived.Deep.CutBlock
import Derived.Deep.RegionHeld3
import Derived.Laws.Rows
import Derived.Lib.AppendStr
import Derived.ArgAppend
import Derived.Laws.IdiomCopy
import Derived.OrdersHeld
import Derived.Laws.BitsLemmas
import Derived.RowKit
import Derived.Lib.AppendIntMem
import Derived.Test.YtgihgmniijhfoaaDoorWWords
import Derived.Test.YtgihgmniijhfoaaDoorWLast
import Derived.Test.YtgihgmniijhfoaaDoorWTab
import Derived.Test.YtgihgmniijhfoaaDoorWFour
import Derived.Test.YtgihgmniijhfoaaDoorWQPut
import Derived.Test.YtgihgmniijhfoaaDoorWApart
import Derived.Test.YtgihgmniijhfoaaDoorWArr
import Derived.Test.YtgihgmniijhfoaaDoorWZeros
import Derived.Test.YtgihgmniijhfoaaDoorWFoot
import Derived.Test.YtgihgmniijhfoaaDoorWKept
import Derived.Test.YtgihgmniijhfoaaDoorWShare
import Derived.Test.YtgihgmniijhfoaaDoorWN
import Derived.Test.YtgihgmniijhfoaaDoorWFootNe
import Derived.Test.YtgihgmniijhfoaaDoorWAt
import Derived.Test.YtgihgmniijhfoaaDoorWEqStruct
import Derived.Test.YtgihgmniijhfoaaDoorWRepsOne
import Derived.Test.YtgihgmniijhfoaaDoorWInv
import Derived.Test.YtgihgmniijhfoaaDoorWInvWords
import Derived.Test.YtgihgmniijhfoaaDoorWGuard
import Derived.Test.YtgihgmniijhfoaaDoorWNEv
import Derived.Test.YtgihgmniijhfoaaDoorWMore
import Derived.Test.YtgihgmniijhfoaaDoorZLexW1
import Derived.Test.YtgihgmniijhfoaaDoorShelf
import Derived.Test.YtgihgmniijhfoaaDoorZLexW2
import Derived.Test.YtgihgmniijhfoaaDoorZLexW3
import Derived.Lib.AtoiAllMem
import Derived.Laws.Strings3
import Derived.Laws.Closers25
import Derived.Laws.Closers25b
import Derived.BigCall
import Derived.BigGuard
import Derived.Test.YtgihgmniijhfoaaDoorZLexW5
import Derived.Test.YtgihgmniijhfoaaDoorZLexW4
import Derived.Test.YtgihgmniijhfoaaDoorZLexW6
namespace Go.Proofs.YtgihgmniijhfoaaDoor.LexW
open Go.RowKit Go.Proofs.YtgihgmniijhfoaaDoor.LexP Go.Proofs.YtgihgmniijhfoaaDoorW.PrintWords Go.Proofs.YtgihgmniijhfoaaDoorW.PrintLast Go.Proofs.YtgihgmniijhfoaaDoorW.PrintMore Go.Proofs.YtgihgmniijhfoaaDoor.Lex
set_option linter.unusedVariables false
set_option linter.unusedSimpArgs false
theorem below_drawn {w w' : World} (h : Drawn0 w w') : Below w.heap.size w w' := by
  obtain ⟨n, rfl⟩ := h
  exact pw_below_drewN (Below.refl _ _) n
theorem start_calls (c : UInt8) (w : World) : Calls Tryd.prog 47 #[.int .u8 (c.toNat : Int)] w fun e w' => e = .returned (.bool (startC c)) ∧ Below w.heap.size w w' :=
  (lex_start.calls _ _ w (start_f c)).mono fun _ _ ⟨h, hb⟩ => ⟨h, below_drawn hb⟩
theorem mark_calls (c : UInt8) (w : World) : Calls Tryd.prog 45 #[.int .u8 (c.toNat : Int)] w fun e w' => e = .returned (.bool (markC c)) ∧ Below w.heap.size w w' :=
  (lex_mark.calls _ _ w (mark_f c)).mono fun _ _ ⟨h, hb⟩ => ⟨h, below_drawn hb⟩
theorem many_inside_calls (s : ByteArray) (hs : s.size ≤ 1000000000000) (w : World) : Calls Tryd.prog 48 #[.string s, .func (.func 49) #[] #[]] w fun e w' => e = .returned (.int .i64 ((many insideC s.data.toList : Nat) : Int)) ∧ Below w.heap.size w w' :=
  (lex_many_by_lex_inside.calls (s.size + 1) s _ w (many_inside_f s (by omega) _ (by omega))).mono fun _ _ ⟨h, hb⟩ => ⟨h, below_drawn hb⟩
theorem many_digit_calls (s : ByteArray) (hs : s.size ≤ 1000000000000) (w : World) : Calls Tryd.prog 48 #[.string s, .func (.func 63) #[] #[]] w fun e w' => e = .returned (.int .i64 ((many digitC s.data.toList : Nat) : Int)) ∧ Below w.heap.size w w' :=
  (lex_many_by_lex_digit.calls (s.size + 1) s _ w (many_digit_f s (by omega) _ (by omega))).mono fun _ _ ⟨h, hb⟩ => ⟨h, below_drawn hb⟩
theorem many_hex_calls (s : ByteArray) (hs : s.size ≤ 1000000000000) (w : World) : Calls Tryd.prog 48 #[.string s, .func (.func 64) #[] #[]] w fun e w' => e = .returned (.int .i64 ((many hexC s.data.toList : Nat) : Int)) ∧ Below w.heap.size w w' :=
  (lex_many_by_lex_number_1.calls (s.size + 1) s _ w (many_hex_f s (by omega) _ (by omega))).mono fun _ _ ⟨h, hb⟩ => ⟨h, below_drawn hb⟩
theorem name_calls (s : ByteArray) (hs : s.size ≤ 1000000000000) (w : World) : Calls Tryd.prog 50 #[.string s] w fun e w' => e = .returned (.bool (nameL s.data.toList)) ∧ Below w.heap.size w w' :=
  (lex_name.calls (s.size + 1) s _ w (name_f s (by omega) _ (by omega))).mono fun _ _ ⟨h, hb⟩ => ⟨h, below_drawn hb⟩
theorem local_calls (s : ByteArray) (hs : s.size ≤ 1000000000000) (w : World) : Calls Tryd.prog 51 #[.string s] w fun e w' => e = .returned (.bool (localL s.data.toList)) ∧ Below w.heap.size w w' :=
  (lex_local.calls (s.size + 1) s _ w (local_f s (by omega) _ (by omega))).mono fun _ _ ⟨h, hb⟩ => ⟨h, below_drawn hb⟩
theorem atoi_dec : ∀ (l : List UInt8) (a : Nat), (∀ c ∈ l, digitC c = true) → Lib.decFrom a l = some (l.foldl (fun a c => a * 10 + (c.toNat - 48)) a)
  | [], a, _ => rfl
  | c :: t, a, h => by
    have hc := dig_hex c (h c (by simp))
    have hd : Lib.digitVal c = some (c.toNat - 48) := by
      have := Go.Proofs.YtgihgmniijhfoaaDoor.Lex.bytes (p := fun c => !digitC c || Lib.digitVal c == some (c.toNat - 48)) (by decide +kernel) c
      simpa [h c (by simp)] using this
    have := atoi_dec t (a * 10 + (c.toNat - 48)) (fun x hx => h x (by simp [hx]))
    simp only [Lib.decFrom, hd, List.foldl_cons]
    exact this
theorem atoi_take (s : ByteArray) (n : Nat) (hn : n ≤ s.size) (hm : n = many digitC s.data.toList) (h0 : n ≠ 0) : Lib.atoi (s.extract 0 n).data.toList = some ((decNat (s.data.toList.take n) : Nat) : Int) := by
  rw [extract_list, List.drop_zero]
  have hall := many_take (p := digitC) s.data.toList
  rw [← hm] at hall
  have hl : (s.data.toList.take n).length = n := by rw [List.length_take, size_data]; omega
  generalize s.data.toList.take n = l at hall hl
  cases l with
  | nil => simp at hl; omega
  | cons c t =>
    have hc := hall c (by simp)
    have h45 := Go.Proofs.YtgihgmniijhfoaaDoor.Lex.bytes (p := fun c => !digitC c || (c != 45 && c != 43)) (by decide +kernel) c
    simp [hc] at h45
    have hd := atoi_dec (c :: t) 0 hall
    simp only [Lib.atoi]
    rw [if_neg (by simp [h45.1]), if_neg (by simp [h45.2]), Lib.decNat, if_neg (by simp), hd]
    rfl
set_option maxHeartbeats 1000000 in
set_option maxRecDepth 100000 in
theorem number_calls (s : ByteArray) (hs : s.size ≤ 1000000000) (w : World) (hE : LexE w) : Calls Tryd.prog 52 #[.string s] w fun e w' =>
    e = .returned (.tuple #[.int .i64 (numL s.data.toList).1, .int .i64 ((numL s.data.toList).2 : Nat)]) ∧ Below w.heap.size w w' := by
  have HE := Aside0.mk hE
  clear hE
  have hsd := size_data s
  have hpre : (s.extract 0 2).toList = s.data.toList.take 2 := by rw [ByteArray.toList_eq, extract_list]; simp
  by_cases hx : 2 < s.data.toList.length ∧ s.data.toList.take 2 = [48, 120]
  · have d2 : decide ((2 : Int) < (s.size : Int)) = true := decide_eq_true (by omega)
    have d3 : ((s.extract 0 2).toList == [48, 120]) = true := by rw [hpre, hx.2]; rfl
    have d4 : (2 : Int) ≤ (s.size : Int) := by omega
    have hrest : (s.extract 2 s.size).data.toList = s.data.toList.drop 2 := by rw [extract_list, List.take_of_length_le (by omega)]
    have hrsz : (s.extract 2 s.size).size = s.size - 2 := by rw [← size_data, hrest, List.length_drop]; omega
    obtain ⟨n, hn⟩ : ∃ n, n = many hexC (s.data.toList.drop 2) := ⟨_, rfl⟩
    have cM := fun w => many_hex_calls (s.extract 2 s.size) (by omega) w
    rw [hrest] at cM
    have hnle := many_le (p := hexC) (s.data.toList.drop 2)
    rw [List.length_drop] at hnle
    have hN : ((n = 0 ∨ 16 < n) → numL s.data.toList = (0, 0)) ∧ (¬ (n = 0 ∨ 16 < n) → numL s.data.toList = (toI64 (hexNat ((s.data.toList.drop 2).take n)), n + 2)) := by
      unfold numL
      rw [if_pos hx, ← hn]
      exact ⟨fun h => if_pos h, fun h => if_neg h⟩
    have hall := many_take (p := hexC) (s.data.toList.drop 2)
    rw [← hn] at cM hnle hall
    have ht : (s.extract 2 (2 + n)).data.toList = (s.data.toList.drop 2).take n := by rw [extract_list, List.drop_take]; congr 1; omega
    have htz : (s.extract 2 (2 + n)).size = n := by rw [← size_data, ht, List.length_take, List.length_drop]; omega
    have cP := fun w hE => pu16 (s.extract 2 (2 + n)) (by omega) (by rw [ht]; exact hall) w hE
    rw [htz, ht] at cP
    have HN := Aside0.mk hN
    clear hN hn hx hpre hrest hrsz ht htz
    have nle : (2 : Int) + (n : Int) ≤ (s.size : Int) := by omega
    have hsl : ∀ W : World, (Instr.slice 9 (.string s) (some (.int .i64 2)) (some (.int .i64 (2 + (n : Int)))) none).run Tryd.prog W = .ok (.string (s.extract 2 (2 + n))) W := fun W => by
      rw [run_slice_string W 9 s .i64 .i64 2 (2 + (n : Int)) Tryd.underlying9 (by omega) (by omega) (by omega)]
      rw [show (2 + (n : Int)).toNat = 2 + n by omega]
      rfl
    by_cases hn0 : n = 0
    · have e0 : ((n : Int) == 0) = true := beq_iff_eq.2 (by omega)
      have HN0 := Aside0.mk hn0
      clear hn0 hnle
      go_enter Tryd.func52, Tryd.ntmps52
      go_wp2_with (first
        | (go_at_call 48; refine (cM _).mono ?_; rintro e w' ⟨rfl, hb⟩; have HB := Aside0.mk hb; clear hb)
        | (go_at_call 65; refine (cP _ (HE.out.below HB.out)).mono ?_; rintro e w2 ⟨u, v, rfl, _, hb⟩; have HB2 := Aside0.mk (below_step HB.out hb); clear hb))
      go_ret2
      exact ⟨by rw [HN.out.1 (.inl HN0.out)]; rfl, HB2.out⟩
    have e0 : ((n : Int) == 0) = false := beq_eq_false_iff_ne.2 (by omega)
    by_cases hn16 : 16 < n
    · have e1 : decide ((16 : Int) < (n : Int)) = true := decide_eq_true (by omega)
      have HN0 := Aside0.mk hn16
      clear hn0 hnle hn16
      go_enter Tryd.func52, Tryd.ntmps52
      go_wp2_with (first
        | (go_at_call 48; refine (cM _).mono ?_; rintro e w' ⟨rfl, hb⟩; have HB := Aside0.mk hb; clear hb)
        | (go_at_call 65; refine (cP _ (HE.out.below HB.out)).mono ?_; rintro e w2 ⟨u, v, rfl, _, hb⟩; have HB2 := Aside0.mk (below_step HB.out hb); clear hb))
      go_ret2
      exact ⟨by rw [HN.out.1 (.inr HN0.out)]; rfl, HB2.out⟩
    have e1 : decide ((16 : Int) < (n : Int)) = false := decide_eq_false (by omega)
    have hres := HN.out.2 (by omega)
    have HC := Aside0.mk (show n ≠ 0 ∧ n ≤ 16 by omega)
    have hlt := hexNat_lt _ hall
    have hll : ((s.data.toList.drop 2).take n).length ≤ 16 := by rw [List.length_take]; omega
    have hlt2 := Nat.lt_of_lt_of_le hlt (Nat.le_trans (Nat.pow_le_pow_right (by decide) hll) (show 16 ^ 16 ≤ 18446744073709551616 by decide))
    clear hlt hll
    obtain ⟨x, hx⟩ : ∃ x, x = hexNat ((s.data.toList.drop 2).take n) := ⟨_, rfl⟩
    rw [← hx] at cP hres hlt2
    have HX := Aside0.mk hlt2
    have HR := Aside0.mk hres
    clear hres hn0 hlt2 hx
    have hcv : IntKind.i64.wrap (x : Int) = toI64 x := by
      rw [i64_w]
      have := HX.out
      unfold wrap64 toI64
      by_cases hx : x < 9223372036854775808
      · rw [if_pos hx]; omega
      · rw [if_neg hx]; omega
    go_enter Tryd.func52, Tryd.ntmps52
    go_wp2_with (first
      | (go_at_call 48; refine (cM _).mono ?_; rintro e w' ⟨rfl, hb⟩; have HB := Aside0.mk hb; clear hb)
      | (go_at_call 65; refine (cP _ (HE.out.below HB.out)).mono ?_; rintro e w2 ⟨u, v, rfl, huv, hb⟩; obtain ⟨rfl, rfl⟩ := huv HC.out.1 HC.out.2; have HB2 := Aside0.mk (below_step HB.out hb); clear hb))
    go_ret2
    exact ⟨by rw [HR.out]; rfl, HB2.out⟩
  · obtain ⟨n, hn⟩ : ∃ n, n = many digitC s.data.toList := ⟨_, rfl⟩
    have cM := fun w => many_digit_calls s (by omega) w
    have hN : ((n = 0 ∨ 18 < n) → numL s.data.toList = (0, 0)) ∧ (¬ (n = 0 ∨ 18 < n) → numL s.data.toList = (((decNat (s.data.toList.take n) : Nat) : Int), n)) := by
      unfold numL
      rw [if_neg hx, ← hn]
      exact ⟨fun h => if_pos h, fun h => if_neg h⟩
    have hnle := many_le (p := digitC) s.data.toList
    rw [← hn] at cM hnle
    have HM := Aside0.mk hn.symm
    have HN := Aside0.mk hN
    have hsplit : (decide ((2 : Int) < (s.size : Int)) = false) ∨ (decide ((2 : Int) < (s.size : Int)) = true ∧ ((s.extract 0 2).toList == [48, 120]) = false ∧ (2 : Int) ≤ (s.size : Int)) := by
      by_cases h2 : 2 < s.size
      · exact .inr ⟨decide_eq_true (by omega), by rw [hpre]; exact beq_eq_false_iff_ne.2 (fun h => hx ⟨by omega, h⟩), by omega⟩
      · exact .inl (decide_eq_false (by omega))
    clear hN hn hx hpre
    go_enter Tryd.func52, Tryd.ntmps52
    rcases hsplit with d2 | ⟨d2, d3, d4⟩
    · by_cases hn0 : n = 0
      · have e0 : ((n : Int) == 0) = true := beq_iff_eq.2 (by omega)
        have HN0 := Aside0.mk hn0
        clear hn0 hnle
        go_wp2_with (go_at_call 48; refine (cM _).mono ?_; rintro e w' ⟨rfl, hb⟩; have HB := Aside0.mk hb; clear hb)
        go_ret2
        exact ⟨by rw [HN.out.1 (.inl HN0.out)]; rfl, HB.out⟩
      have e0 : ((n : Int) == 0) = false := beq_eq_false_iff_ne.2 (by omega)
      by_cases hn18 : 18 < n
      · have e1 : decide ((18 : Int) < (n : Int)) = true := decide_eq_true (by omega)
        have HN0 := Aside0.mk hn18
        clear hn0 hnle hn18
        go_wp2_with (go_at_call 48; refine (cM _).mono ?_; rintro e w' ⟨rfl, hb⟩; have HB := Aside0.mk hb; clear hb)
        go_ret2
        exact ⟨by rw [HN.out.1 (.inr HN0.out)]; rfl, HB.out⟩
      have e1 : decide ((18 : Int) < (n : Int)) = false := decide_eq_false (by omega)
      have hres := HN.out.2 (by omega)
      have hat := atoi_take s n (by omega) HM.out.symm (by omega)
      have hsz : (s.extract 0 n).size ≤ 18 := by rw [← size_data, extract_list, List.drop_zero, List.length_take]; omega
      have cA := fun w => Tryd.strconv_Atoi (s.extract 0 n) _ hsz hat w
      obtain ⟨v, hv⟩ : ∃ v : Int, v = ((decNat (s.data.toList.take n) : Nat) : Int) := ⟨_, rfl⟩
      rw [← hv] at cA
      have HV := Aside0.mk hv
      have HR := Aside0.mk hres
      clear hat hsz hres hv hn0
      have nle : (n : Int) ≤ (s.size : Int) := by omega
      go_wp2_with (first
        | (go_at_call 48; refine (cM _).mono ?_; rintro e w' ⟨rfl, hb⟩; have HB := Aside0.mk hb; clear hb)
        | (go_at_call 66; refine (cA _).mono ?_; rintro e w2 ⟨rfl, t2, rfl⟩; have HB2 := Aside0.mk (below_step HB.out (Lib.bytesWorld_below _ 5 t2))))
      go_ret2
      exact ⟨by rw [HR.out, HV.out]; rfl, HB2.out⟩
    · by_cases hn0 : n = 0
      · have e0 : ((n : Int) == 0) = true := beq_iff_eq.2 (by omega)
        have HN0 := Aside0.mk hn0
        clear hn0 hnle
        go_wp2_with (go_at_call 48; refine (cM _).mono ?_; rintro e w' ⟨rfl, hb⟩; have HB := Aside0.mk hb; clear hb)
        go_ret2
        exact ⟨by rw [HN.out.1 (.inl HN0.out)]; rfl, HB.out⟩
      have e0 : ((n : Int) == 0) = false := beq_eq_false_iff_ne.2 (by omega)
      by_cases hn18 : 18 < n
      · have e1 : decide ((18 : Int) < (n : Int)) = true := decide_eq_true (by omega)
        have HN0 := Aside0.mk hn18
        clear hn0 hnle hn18
        go_wp2_with (go_at_call 48; refine (cM _).mono ?_; rintro e w' ⟨rfl, hb⟩; have HB := Aside0.mk hb; clear hb)
        go_ret2
        exact ⟨by rw [HN.out.1 (.inr HN0.out)]; rfl, HB.out⟩
      have e1 : decide ((18 : Int) < (n : Int)) = false := decide_eq_false (by omega)
      have hres := HN.out.2 (by omega)
      have hat := atoi_take s n (by omega) HM.out.symm (by omega)
      have hsz : (s.extract 0 n).size ≤ 18 := by rw [← size_data, extract_list, List.drop_zero, List.length_take]; omega
      have cA := fun w => Tryd.strconv_Atoi (s.extract 0 n) _ hsz hat w
      obtain ⟨v, hv⟩ : ∃ v : Int, v = ((decNat (s.data.toList.take n) : Nat) : Int) := ⟨_, rfl⟩
      rw [← hv] at cA
      have HV := Aside0.mk hv
      have HR := Aside0.mk hres
      clear hat hsz hres hv hn0
      have nle : (n : Int) ≤ (s.size : Int) := by omega
      go_wp2_with (first
        | (go_at_call 48; refine (cM _).mono ?_; rintro e w' ⟨rfl, hb⟩; have HB := Aside0.mk hb; clear hb)
        | (go_at_call 66; refine (cA _).mono ?_; rintro e w2 ⟨rfl, t2, rfl⟩; have HB2 := Aside0.mk (below_step HB.out (Lib.bytesWorld_below _ 5 t2))))
      go_ret2
      exact ⟨by rw [HR.out, HV.out]; rfl, HB2.out⟩
end Go.Proofs.YtgihgmniijhfoaaDoor.LexW
