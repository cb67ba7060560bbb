/- Texts of this seat in one (ZLexW0, ZLexW1, ZLexW2, ZLexW3, ZLexW5, ZLexPr, ZLexW4, ZLexW6, ZLexW7, ZLexW8, ZLexW9), what nothing speaks of left out: by pack.py, a program of this session. -/
import Derived.Test.YtbfndlfemhidaaaGreatDoorProg
import Derived.Test.YtbfndlfemhidaaaGreatDoorK1
import Derived.WalkKit
import Derived.Maps.OwnSet
import Derived.Maps.OwnOps
import Derived.Maps.Views
import Derived.Maps.RangeWalk
import Derived.Lib.Hide
import Derived.Below
import Derived.Deep.Draws
import Derived.Deep.AppendLies
import Derived.Maps.AppendAt
import Derived.OwnWalk
import Derived.Laws.BytesArg
import Derived.Laws.MakeOwn
import Derived.Laws.OwnMore
import Derived.Deep.OwnRows
import Derived.Tactics
import Derived.Lib.ConvBytes
import Derived.Laws.Slices
import Derived.KernelRfl
import Derived.RowKit3
import Derived.Deep.LoopGhost
import Derived.Deep.QuietTactic
import Derived.BigQuiet
import Derived.WideLaws
import Derived.Deep.DeepCutAuto
import Derived.Deep.CutBlock
import Derived.Deep.RegionHeld3
import Derived.Laws.Rows
import Derived.Lib.AppendStr
import Derived.ArgAppend
import Derived.Laws.IdiomCopy
import Derived.OrdersHeld
import Derived.Laws.BitsLemmas
import Derived.RowKit
import Derived.Lib.AppendIntMem
import Derived.Test.YtbfndlfemhidaaaGreatDoorK0
import Derived.Test.YtbfndlfemhidaaaGreatDoorShelf
import Derived.Lib.AtoiAllMem
import Derived.Laws.Strings3
import Derived.Laws.Closers25
import Derived.Laws.Closers25b
import Derived.BigCall
import Derived.BigGuard
import Derived.Laws.Bits64b
import Derived.Lib.Tables
/- lex: what its functions do, walked step by step. -/
namespace Go.Proofs.YtbfndlfemhidaaaGreatDoor.LexW
open Go.RowKit Go.WideMaps Go.Proofs.YtbfndlfemhidaaaGreatDoor.Lex
set_option linter.unusedVariables false
set_option linter.unusedSimpArgs false
theorem byteLaw : Maps.Keyed Tryz.prog 5 := Maps.int_keyed Tryz.underlying5
theorem zeroB (w : World) : (zeroValue 5).run Tryz.prog w = .ok (.int .u8 0) w := by kernel_rfl
theorem wfB {n : Int} (h : 0 ≤ n) (h1 : n < 256) : (Lit.int .u8 n).wf = true := by
 simp [Lit.wf, IntKind.min, IntKind.max, IntKind.signed, IntKind.bits]
 omega
def bk (n : Int) : Lit := .int .u8 n
def bd (n : Int) : DataW Unit := .lit (.int .u8 n)
def SIGD : DataW Unit := (((((DataW.map []).put (bk 110) (bd 10)).put (bk 116) (bd 9)).put (bk 48) (bd 0)).put (bk 34) (bd 34)).put (bk 92) (bd 92)
def IsSig (W : World) (b : Nat) : Prop := W.ownsMap Tryz.prog 5 (plainElem Tryz.prog 5) b 5 SIGD
theorem byteKey (n : Int) (h : 0 ≤ n) (h1 : n < 256) : keyOf Tryz.prog 5 (.int .u8 n) = some (bk n) := Maps.keyOf_int_mk Tryz.underlying5 (wfB (by omega) (by omega))
set_option maxHeartbeats 400000 in
set_option maxRecDepth 100000 in
theorem signs_calls (w : World) : Calls Tryz.prog 90 #[] w fun e w' => e = .returned (.map (some w.heap.size)) ∧ IsSig w' w.heap.size ∧ Below w.heap.size w w' := by
 have hmm := @run_makeMap Tryz.prog
 have h0 := World.ownsMap_made w Tryz.prog 5 (plainElem (H := Unit) Tryz.prog 5)
 have wf : ∀ n : Int, 0 ≤ n → n < 256 → plainElem (H := Unit) Tryz.prog 5 (.int .u8 n) = some (bd n, []) := fun n a b => plainElem_int Tryz.underlying5 (wfB (by omega) (by omega))
 obtain ⟨w1, r1, o1, g1⟩ := h0.update byteLaw Tryz.underlying118 (by decide) (byteKey 110 (by decide) (by decide)) (wf 10 (by decide) (by decide))
 obtain ⟨w2, r2, o2, g2⟩ := o1.update byteLaw Tryz.underlying118 (by decide) (byteKey 116 (by decide) (by decide)) (wf 9 (by decide) (by decide))
 obtain ⟨w3, r3, o3, g3⟩ := o2.update byteLaw Tryz.underlying118 (by decide) (byteKey 48 (by decide) (by decide)) (wf 0 (by decide) (by decide))
 obtain ⟨w4, r4, o4, g4⟩ := o3.update byteLaw Tryz.underlying118 (by decide) (byteKey 34 (by decide) (by decide)) (wf 34 (by decide) (by decide))
 obtain ⟨w5, r5, o5, g5⟩ := o4.update byteLaw Tryz.underlying118 (by decide) (byteKey 92 (by decide) (by decide)) (wf 92 (by decide) (by decide))
 have hB : Below w.heap.size w w5 := by
  have b0 : Below w.heap.size w (w.alloc (.map #[] 0)) := (Below.refl _ _).alloc (Nat.le_refl _) _
  have s : ∀ {a b : World}, Below w.heap.size w a → a.grownBy b (some w.heap.size) → Below w.heap.size w b := fun h g => h.grown g h.size (fun j hj => by cases hj; exact Nat.le_refl _)
  exact s (s (s (s (s b0 g1) g2) g3) g4) g5
 have O5 := Lib.hid o5
 have HB := Lib.hid hB
 clear o1 o2 o3 o4 o5 g1 g2 g3 g4 g5 h0 wf hB
 go_enter Tryz.func90, Tryz.ntmps90
 go_wp2
 go_ret
 exact ⟨rfl, O5.out, HB.out⟩
theorem bk_inj {m n : Int} (h : bk m = bk n) : m = n := by injection h
theorem sig_put {D : DataW Unit} {k d : Int} (x : Int) (z : DataW Unit) (hD : Maps.IsMap D) : (x = k → Maps.has (D.put (bk k) (bd d)) (bk x) = true ∧ (D.put (bk k) (bd d)).atKey (bk x) z = bd d) ∧
  (x ≠ k → Maps.has (D.put (bk k) (bd d)) (bk x) = Maps.has D (bk x) ∧ (D.put (bk k) (bd d)).atKey (bk x) z = D.atKey (bk x) z) :=
 ⟨fun e => by subst e; exact ⟨Maps.has_put_same hD (show WideAt.IsKeyLit (bk x) by unfold bk; trivial) _, Maps.atKey_put_same hD (show WideAt.IsKeyLit (bk x) by unfold bk; trivial) _ _⟩, fun e => ⟨Maps.has_put_other (fun h => e (bk_inj h)) _, Maps.atKey_put_other (fun h => e (bk_inj h)) _ _⟩⟩
theorem u8_ne {x : UInt8} {n : Nat} (hn : n < 256) (h : x ≠ UInt8.ofNat n) : ((x.toNat : Nat) : Int) ≠ (n : Int) := by
 intro e
 apply h
 have : x.toNat = n := by omega
 rw [← this, UInt8.ofNat_toNat]
theorem sig_at (x : UInt8) (z : DataW Unit) : (∀ y, escL x = some y → Maps.has SIGD (bk x.toNat) = true ∧ SIGD.atKey (bk x.toNat) z = bd y.toNat) ∧ (escL x = none → Maps.has SIGD (bk x.toNat) = false ∧ SIGD.atKey (bk x.toNat) z = z) := by
 have m0 : Maps.IsMap (DataW.map [] : DataW Unit) := Maps.isMap_empty
 have m1 := m0.put (bk 110) (bd 10)
 have m2 := m1.put (bk 116) (bd 9)
 have m3 := m2.put (bk 48) (bd 0)
 have m4 := m3.put (bk 34) (bd 34)
 have p1 := sig_put (k := 110) (d := 10) x.toNat z m0
 have p2 := sig_put (k := 116) (d := 9) x.toNat z m1
 have p3 := sig_put (k := 48) (d := 0) x.toNat z m2
 have p4 := sig_put (k := 34) (d := 34) x.toNat z m3
 have p5 := sig_put (k := 92) (d := 92) x.toNat z m4
 unfold SIGD escL
 by_cases h5 : x = 92
 ·
  subst h5
  refine ⟨fun y hy => ?_, fun h => absurd h (by decide)⟩
  obtain rfl : (92 : UInt8) = y := Option.some.inj hy
  exact p5.1 rfl
 obtain ⟨a5, b5⟩ := p5.2 (u8_ne (n := 92) (by decide) h5)
 rw [a5, b5]
 by_cases h4 : x = 34
 ·
  subst h4
  refine ⟨fun y hy => ?_, fun h => absurd h (by decide)⟩
  obtain rfl : (34 : UInt8) = y := Option.some.inj hy
  exact p4.1 rfl
 obtain ⟨a4, b4⟩ := p4.2 (u8_ne (n := 34) (by decide) h4)
 rw [a4, b4]
 by_cases h3 : x = 48
 ·
  subst h3
  refine ⟨fun y hy => ?_, fun h => absurd h (by decide)⟩
  obtain rfl : (0 : UInt8) = y := Option.some.inj hy
  exact p3.1 rfl
 obtain ⟨a3, b3⟩ := p3.2 (u8_ne (n := 48) (by decide) h3)
 rw [a3, b3]
 by_cases h2 : x = 116
 ·
  subst h2
  refine ⟨fun y hy => ?_, fun h => absurd h (by decide)⟩
  obtain rfl : (9 : UInt8) = y := Option.some.inj hy
  exact p2.1 rfl
 obtain ⟨a2, b2⟩ := p2.2 (u8_ne (n := 116) (by decide) h2)
 rw [a2, b2]
 by_cases h1 : x = 110
 ·
  subst h1
  refine ⟨fun y hy => ?_, fun h => absurd h (by decide)⟩
  obtain rfl : (10 : UInt8) = y := Option.some.inj hy
  exact p1.1 rfl
 obtain ⟨a1, b1⟩ := p1.2 (u8_ne (n := 110) (by decide) h1)
 rw [a1, b1, if_neg h1, if_neg h2, if_neg h3, if_neg h4, if_neg h5]
 exact ⟨(fun y hy => by cases hy), fun _ => ⟨rfl, rfl⟩⟩
end Go.Proofs.YtbfndlfemhidaaaGreatDoor.LexW
/- lex: what its functions do, walked step by step. -/
namespace Go.Proofs.YtbfndlfemhidaaaGreatDoor.LexW
open Go.RowKit Go.Proofs.YtbfndlfemhidaaaGreatDoorW.PrintWords Go.Proofs.YtbfndlfemhidaaaGreatDoorW.PrintLast Go.Proofs.YtbfndlfemhidaaaGreatDoorW.PrintMore Go.Proofs.YtbfndlfemhidaaaGreatDoor.Lex
set_option linter.unusedVariables false
set_option linter.unusedSimpArgs false
def nm (b : List UInt8) : List Int := b.map fun c => (c.toNat : Int)
theorem bd_inj {c n : Int} (h : (DataW.lit (.int .u8 c) : DataW Unit) = bd n) : c = n := by
 unfold bd at h
 injection h with h
 injection h
theorem nm_length (b : List UInt8) : (nm b).length = b.length := List.length_map ..
theorem nm_snoc (b : List UInt8) (c : UInt8) : nm (b ++ [c]) = nm b ++ [(c.toNat : Int)] := by simp [nm]
theorem infoB : (Tryz.prog.info? 5).map (fun i => (i.zero, i.size, i.bytes)) = some (some (.int .u8 0), 1, 1) := by kernel_rfl
theorem str_nm (b : List UInt8) : strOfNums (nm b) = ⟨b.toArray⟩ := by
 unfold strOfNums nm
 rw [List.map_map]
 congr 2
 conv => rhs; rw [← List.map_id b]
 refine List.map_congr_left fun c _ => ?_
 simp
theorem u8_is {c d : UInt8} {n : Int} (h : c = d) (hd : (d.toNat : Int) = n) : (((c.toNat : Nat) : Int) == n) = true := by
 subst h
 exact beq_iff_eq.2 hd
theorem u8_not {c d : UInt8} {n : Int} (h : c ≠ d) (hd : (d.toNat : Int) = n) : (((c.toNat : Nat) : Int) == n) = false :=
 beq_eq_false_iff_ne.2 fun e => h (UInt8.toNat_inj.1 (by omega))
theorem drop_at (s : ByteArray) (k : Nat) (hk : k < s.size) : s.data.toList.drop k = s[k] :: s.data.toList.drop (k + 1) := by
 have h : k < s.data.toList.length := by simpa using hk
 rw [List.drop_eq_getElem_cons h]
 rfl
theorem drop_end (s : ByteArray) (k : Nat) (hk : ¬ k < s.size) : s.data.toList.drop k = [] := List.drop_eq_nil_of_le (by rw [Array.length_toList]; exact Nat.le_of_not_lt hk)
theorem ret2 {a a' : ByteArray} {b b' : Int} (h : a = a') (h' : b = b') : Ending.returned (.tuple #[.string a, .int .i64 b]) = Ending.returned (.tuple #[.string a', .int .i64 b']) := by rw [h, h']
set_option maxHeartbeats 1000000 in
set_option maxRecDepth 100000 in
theorem quoted_calls (s : ByteArray) (hs : s.size ≤ 1000000000000) (w : World) : Calls Tryz.prog 74 #[.string s] w fun e w' =>
  e = .returned (.tuple #[.string ⟨(quotedL s.data.toList 0 []).1.toArray⟩, .int .i64 ((quotedL s.data.toList 0 []).2 : Nat)]) ∧ Below w.heap.size w w' := by
 obtain ⟨res, hres⟩ : ∃ r, r = quotedL s.data.toList 0 [] := ⟨_, rfl⟩
 rw [← hres]
 have RES := Aside0.mk hres
 clear hres
 go_enter Tryz.func74, Tryz.ntmps74
 go_wp2_with (go_at_call 90; refine (signs_calls _).mono ?_; rintro e w1 ⟨rfl, hsig, hb⟩; have HS := Aside0.mk hsig; have HB := Aside0.mk hb; clear hsig hb)
 go_loopw [4, 6] (fun v4 v6 wx => ∃ (k : Nat) (b : List UInt8), v6 = .int .i64 (k : Int) ∧ Aside0 (k ≤ s.size ∧ b.length ≤ k ∧ quotedL (s.data.toList.drop k) k b = res) ∧ Aside0 (Kd.R (Kd.int .u8) 5 wx w.heap.size (fun q => q ≠ w.heap.size) v4 (nm b)) ∧ Aside0 (IsSig wx w.heap.size) ∧ Aside0 (Below w.heap.size w wx)) (fun _ v6 _ => s.size - (intOf v6).toNat)
 case atStart => exact ⟨0, [], rfl, ⟨Nat.zero_le _, Nat.zero_le _, by rw [RES.out]; rfl⟩, ⟨Kd.R_nil _ _ _ _ _⟩, HS, HB⟩
 case round =>
  clear RES HS HB
  obtain ⟨k, b, rfl, HK, HR, HS, HB⟩ := hrel
  by_cases hk : k < s.size
  ·
   have hq := HK.out.2.2
   rw [drop_at s k hk] at hq
   by_cases h34 : s[k] = 34
   ·
    have e34 : ((s[k].toNat : Int) == 34) = true := u8_is h34 rfl
    rw [h34, quoted_end] at hq
    have HQ := Aside0.mk hq
    clear hq h34
    have hcv := own_string (P := Tryz.prog) Tryz.underlying91 Tryz.underlying5 Tryz.underlying9 (Kd.own_of_R HR.out)
    go_wp2
    go_ret2
    exact ⟨ret2 (by rw [str_nm, ← HQ.out]) (by rw [← HQ.out]; rfl), HB.out⟩
   have e34 : ((s[k].toNat : Int) == 34) = false := u8_not h34 rfl
   by_cases h92 : s[k] = 92
   ·
    have e92 : ((s[k].toNat : Int) == 92) = true := u8_is h92 rfl
    by_cases hk1 : k + 1 < s.size
    ·
     rw [drop_at s (k + 1) hk1, quotedL, if_neg h34, if_pos h92] at hq
     have e1 : ((k : Int) + 1 == (s.size : Int)) = false := beq_eq_false_iff_ne.2 (by omega)
     cases hx : escL s[k + 1] with
     | none =>
      have hh : Maps.has SIGD (bk (s[k + 1].toNat : Int)) = false := ((sig_at s[k + 1] (bd 0)).2 hx).1
      rw [hx] at hq
      have HQ := Aside0.mk hq
      clear hq h34 h92 hx
      go_wp2_with (at_lookup; refine wpList_lookup_own_ok_int _ rfl _ _ 118 rfl 5 5 .u8 byteLaw Tryz.underlying118 Tryz.underlying5 (zeroB _) w.heap.size 5 SIGD rfl HS.out _ _ rfl (byteKey _ (by omega) (by have := s[k + 1].toNat_lt; omega)) ?_; intro c hat hwc; clear hat hwc)
      go_ret2
      exact ⟨ret2 (by rw [← HQ.out]) (by rw [← HQ.out]; rfl), HB.out⟩
     | some y =>
      obtain ⟨hh, hat0⟩ := (sig_at s[k + 1] (bd 0)).1 y hx
      
      rw [hx] at hq
      have HQ := Aside0.mk hq
      have HA := Aside0.mk hat0
      clear hq h34 h92 hx hat0
      have hy : y.toNat < 256 := y.toNat_lt
      go_wp2_with (first
       | (at_lookup; refine wpList_lookup_own_ok_int _ rfl _ _ 118 rfl 5 5 .u8 byteLaw Tryz.underlying118 Tryz.underlying5 (zeroB _) w.heap.size 5 SIGD rfl HS.out _ _ rfl (byteKey _ (by omega) (by have := s[k + 1].toNat_lt; omega)) ?_; intro c hat hwc; obtain rfl := bd_inj (hat.symm.trans HA.out); clear hat hwc)
       | ((with_reducible refine gate_builtin (b := .append) (xs := #[.tmp 50, .tmp 52]) rfl ?_); at_builtin; refine Kd.R_append (Kd.int .u8) (w0 := w) w.heap.size rfl (.tmp 50) (.tmp 52) 91 5 (.int .u8 0) 1 rfl Tryz.underlying91 infoB rfl (by decide) (by omega) u4 (nm b) (y.toNat : Int) [.int .u8 (y.toNat : Int)] (fun q => q ≠ w.heap.size) (fun _ => False) rfl rfl ?aP (fun _ hk => hk.elim) ?aF ?aO ?aB ?aS ?aL ?_; (case aP => exact rfl); (case aF => exact fun q hq => by have := HS.out.lt; omega); (case aO => exact HR.out); (case aB => exact HB.out); (case aS => exact below_size HB.out); (case aL => have := HK.out; rw [nm_length]; omega); intro v7 w7 ho hb hg _; have HR7 := Aside0.mk ho; have HB7 := Aside0.mk hb; have HS7 : Aside0 (IsSig w7 w.heap.size) := ⟨World.ownsMap.kept HS.out hg (fun e_ => HR.out.1 _ e_.symm rfl)⟩; clear ho hb hg))
      go_roundw
      case rel => exact ⟨k + 2, b ++ [y], by go_num, ⟨by omega, by have := HK.out; simp; omega, HQ.out⟩, ⟨by rw [nm_snoc]; exact HR7.out⟩, HS7, HB7⟩
      case measure => simp [intOf]; omega
    ·
     rw [drop_end s (k + 1) hk1, h92] at hq
     have e1 : ((k : Int) + 1 == (s.size : Int)) = true := beq_iff_eq.2 (by omega)
     have HQ := Aside0.mk hq
     clear hq h34 h92
     go_wp2
     go_ret2
     exact ⟨ret2 (by rw [← HQ.out]; rfl) (by rw [← HQ.out]; rfl), HB.out⟩
   have e92 : ((s[k].toNat : Int) == 92) = false := u8_not h92 rfl
   by_cases hp : plainC s[k] = true
   ·
    have hp' : 32 ≤ s[k].toNat ∧ s[k].toNat ≤ 126 := by
     simpa [plainC, UInt8.le_iff_toNat_le] using hp
    have d1 : decide ((s[k].toNat : Int) < 32) = false := decide_eq_false (by omega)
    have d2 : decide ((126 : Int) < (s[k].toNat : Int)) = false := decide_eq_false (by omega)
    have hnx : (s.data.toList.drop (k + 1) = [] ∧ res = ([], 0)) ∨ quotedL (s.data.toList.drop (k + 1)) (k + 1) (b ++ [s[k]]) = res := by
     by_cases hn : s.data.toList.drop (k + 1) = []
     ·
      rw [hn, quotedL, if_neg h34] at hq
      exact .inl ⟨hn, hq.symm⟩
     ·
      rw [quoted_plain hn h34 h92 hp] at hq
      exact .inr hq
    have hnx : quotedL (s.data.toList.drop (k + 1)) (k + 1) (b ++ [s[k]]) = res := by
     rcases hnx with ⟨h1, h2⟩ | h
     ·
      rw [h1, h2]
      rfl
     ·
      exact h
    have HQ := Aside0.mk hnx
    have HP := Aside0.mk hp'
    clear hq h34 h92 hp hp' hnx
    go_wp2_with ((with_reducible refine gate_builtin (b := .append) (xs := #[.tmp 20, .tmp 22]) rfl ?_); at_builtin; refine Kd.R_append (Kd.int .u8) (w0 := w) w.heap.size rfl (.tmp 20) (.tmp 22) 91 5 (.int .u8 0) 1 rfl Tryz.underlying91 infoB rfl (by decide) (by omega) u4 (nm b) (s[k].toNat : Int) [.int .u8 (s[k].toNat : Int)] (fun q => q ≠ w.heap.size) (fun _ => False) rfl rfl ?aP (fun _ hk => hk.elim) ?aF ?aO ?aB ?aS ?aL ?_; (case aP => exact rfl); (case aF => exact fun q hq => by have := HS.out.lt; omega); (case aO => exact HR.out); (case aB => exact HB.out); (case aS => exact below_size HB.out); (case aL => have := HK.out; rw [nm_length]; omega); intro v7 w7 ho hb hg _; have HR7 := Aside0.mk ho; have HB7 := Aside0.mk hb; have HS7 : Aside0 (IsSig w7 w.heap.size) := ⟨World.ownsMap.kept HS.out hg (fun e_ => HR.out.1 _ e_.symm rfl)⟩; clear ho hb hg)
    go_roundw
    case rel => exact ⟨k + 1, b ++ [s[k]], by go_num, ⟨by omega, by have := HK.out; simp; omega, HQ.out⟩, ⟨by rw [nm_snoc]; exact HR7.out⟩, HS7, HB7⟩
    case measure => simp [intOf]; omega
   ·
    have hp' : s[k].toNat < 32 ∨ 126 < s[k].toNat := by
     have : ¬ (32 ≤ s[k].toNat ∧ s[k].toNat ≤ 126) := by simpa [plainC, UInt8.le_iff_toNat_le] using hp
     omega
    have hq' : res = ([], 0) := by
     rw [← hq]
     cases s.data.toList.drop (k + 1) with
     | nil => rw [quotedL, if_neg h34]
     | cons x t => rw [quotedL, if_neg h34, if_neg h92, if_neg hp]
    have HQ := Aside0.mk hq'
    clear hq h34 h92 hp hq'
    rcases hp' with hp' | hp'
    ·
     have d1 : decide ((s[k].toNat : Int) < 32) = true := decide_eq_true (by omega)
     go_wp2
     go_ret2
     exact ⟨ret2 (by rw [HQ.out]) (by rw [HQ.out]; rfl), HB.out⟩
    ·
     have d1 : decide ((s[k].toNat : Int) < 32) = false := decide_eq_false (by omega)
     have d2 : decide ((126 : Int) < (s[k].toNat : Int)) = true := decide_eq_true (by omega)
     go_wp2
     go_ret2
     exact ⟨ret2 (by rw [HQ.out]) (by rw [HQ.out]; rfl), HB.out⟩
  ·
   have hq := HK.out.2.2
   rw [drop_end s k hk] at hq
   have HQ := Aside0.mk hq
   clear hq
   go_wp2
   go_ret2
   exact ⟨ret2 (by rw [← HQ.out]; rfl) (by rw [← HQ.out]; rfl), HB.out⟩
end Go.Proofs.YtbfndlfemhidaaaGreatDoor.LexW
/- lex: what its functions do, walked step by step. -/
namespace Go.Proofs.YtbfndlfemhidaaaGreatDoor.LexW
open Go.RowKit Go.Proofs.YtbfndlfemhidaaaGreatDoorW.PrintWords Go.Proofs.YtbfndlfemhidaaaGreatDoorW.PrintLast Go.Proofs.YtbfndlfemhidaaaGreatDoorW.PrintMore Go.Proofs.YtbfndlfemhidaaaGreatDoor.Lex
set_option linter.unusedVariables false
set_option linter.unusedSimpArgs false
def Bd (W : World) (B b : Nat) (p : Value) (bs : List UInt8) : Prop := ∃ v, W.heap[b]? = some (.cells #[p, v] 93 (0, 0)) ∧ W.ownsRow B 5 1 v (nm bs).length (nums .u8 (nm bs))
def Kept (b : Nat) (W W' : World) : Prop := W.heap.size ≤ W'.heap.size ∧ ∀ q : Nat, q < W.heap.size → q ≠ b → (∀ cur, W.heap[q]? ≠ some (.cells cur 5 (0, 0))) → W'.heap[q]? = W.heap[q]?
theorem Kept.set (b j : Nat) (W : World) (u : Value) : Kept b W (W.setCell ⟨b, j, none⟩ u) := ⟨by simp [World.setCell], fun q _ hq _ => Below.heap_setCell W ⟨b, j, none⟩ u q hq⟩
theorem Kept.trans {b : Nat} {W W1 W2 : World} (h : Kept b W W1) (k : Kept b W1 W2) : Kept b W W2 :=
 ⟨Nat.le_trans h.1 k.1, fun q hq hb hn => by
  have e := h.2 q hq hb hn
  rw [k.2 q (Nat.lt_of_lt_of_le hq h.1) hb (by rw [e]; exact hn), e]⟩
theorem Kept.grown {b : Nat} {W W1 : World} {B n : Nat} {v : Value} {xs : List Value} (ho : W.ownsRow B 5 1 v n xs) (hg : W.grownBy W1 v.ownBlock) : Kept b W W1 := by
 refine ⟨hg.size, fun q hq _ hn => hg.block q hq fun e => ?_⟩
 rcases ho.2 with ⟨rfl, _⟩ | ⟨g, cap, cur, rfl, _, hc, _⟩
 ·
  cases e
 ·
  injection e with e
  subst e
  exact hn _ hc
theorem Kept.alloc (b : Nat) (W : World) (o : Obj) : Kept b W (W.alloc o) := ⟨by simp, fun q hq _ _ => Below.heap_alloc W o q hq⟩
theorem own_ne {W : World} {B n g : Nat} {v : Value} {xs : List Value} (ho : W.ownsRow B 5 1 v n xs) {o : Obj} (hg : W.heap[g]? = some o) (hn : ∀ cur, o ≠ .cells cur 5 (0, 0)) : some g ≠ v.ownBlock := by
 intro e
 rcases ho.2 with ⟨rfl, _⟩ | ⟨g', cap, cur, rfl, _, hc, _⟩
 ·
  cases e
 ·
  injection e with e
  subst e
  rw [hg] at hc
  exact hn _ (Option.some.inj hc)
theorem own_slice {W : World} {B n : Nat} {v : Value} {xs : List Value} (ho : W.ownsRow B 5 1 v n xs) : ∃ A c, v = .slice A n c := by
  rcases ho.2 with ⟨rfl, rfl⟩ | ⟨g, cap, cur, rfl, _⟩
  · exact ⟨_, _, rfl⟩
  · exact ⟨_, _, rfl⟩
theorem own_set {W : World} {B n : Nat} {v : Value} {xs : List Value} (ho : W.ownsRow B 5 1 v n xs) {a : Addr} (ha : some a.block ≠ v.ownBlock) (u : Value) : (W.setCell a u).ownsRow B 5 1 v n xs := by
 refine ⟨ho.1, ho.2.imp id ?_⟩
 rintro ⟨g, cap, cur, rfl, h1, h2, h3⟩
 exact ⟨g, cap, cur, rfl, h1, (Below.heap_setCell W a u g (fun e => ha (by rw [← e]; rfl))).trans h2, h3⟩
theorem cc_used (b : Nat) (w : World) (h0 : w.cell? ⟨b, 0, none⟩ = some (.pointer (some ⟨b, 0, none⟩))) :
  Calls Tryz.prog 95 #[.pointer (some ⟨b, 0, none⟩)] w fun e w' => e = .returned (.tuple #[]) ∧ w' = w := Any.Builder_copyCheck_used { Tryz.lays105 with } Tryz.Builder_Extra_105.toX72 b w h0
theorem cc_fresh (b : Nat) (w : World) (h0 : w.cell? ⟨b, 0, none⟩ = some (.pointer none)) (hsh : w.shape? b = some (93, 2)) (hfz : w.frozen? ⟨b, 0, none⟩ = false) :
  Calls Tryz.prog 95 #[.pointer (some ⟨b, 0, none⟩)] w fun e w' => e = .returned (.tuple #[]) ∧ w' = w.setCell ⟨b, 0, none⟩ (.pointer (some ⟨b, 0, none⟩)) := Any.Builder_copyCheck_fresh { Tryz.lays105 with } Tryz.Builder_Extra_105.toX72 b w h0 hsh hfz
theorem cc_any (B b : Nat) (p : Value) (bs : List UInt8) (W : World) (hp : p = .pointer none ∨ p = .pointer (some ⟨b, 0, none⟩)) (h : Bd W B b p bs) (hB : B ≤ b) :
  Calls Tryz.prog 95 #[.pointer (some ⟨b, 0, none⟩)] W fun e w' => e = .returned (.tuple #[]) ∧ Bd w' B b (.pointer (some ⟨b, 0, none⟩)) bs ∧ Kept b W w' ∧ Below B W w' := by
 obtain ⟨v, hb, ho⟩ := h
 rcases hp with rfl | rfl
 ·
  refine (cc_fresh b W (blk_cell hb 0) (by simp [World.shape?, hb]) (blk_frozen hb 0)).mono ?_
  rintro e w' ⟨rfl, rfl⟩
  exact ⟨rfl, ⟨v, blk_put hb 0 _ rfl, own_set ho (own_ne ho hb (by simp)) _⟩, Kept.set b 0 W _, (Below.refl B W).setCell (p := ⟨b, 0, none⟩) hB _⟩
 ·
  refine (cc_used b W (blk_cell hb 0)).mono ?_
  rintro e w' ⟨rfl, rfl⟩
  exact ⟨rfl, ⟨v, hb, ho⟩, ⟨Nat.le_refl _, fun _ _ _ _ => rfl⟩, Below.refl _ _⟩
set_option maxHeartbeats 1000000 in
set_option maxRecDepth 100000 in
theorem wb_calls (B b : Nat) (p : Value) (bs : List UInt8) (c : UInt8) (W : World) (hp : p = .pointer none ∨ p = .pointer (some ⟨b, 0, none⟩)) (h : Bd W B b p bs) (hB : B ≤ b) (hl : bs.length ≤ 1000000000000) :
  Calls Tryz.prog 89 #[.pointer (some ⟨b, 0, none⟩), .int .u8 (c.toNat : Int)] W fun e w' => e = .returned .nilIface ∧ Bd w' B b (.pointer (some ⟨b, 0, none⟩)) (bs ++ [c]) ∧ Kept b W w' ∧ Below B W w' := by
 have HH := Aside0.mk h
 have hln := nm_length bs
 have HL := Aside0.mk hln
 clear h hln
 have hsz : B ≤ W.heap.size := by
  obtain ⟨v, hb, _⟩ := HH.out
  exact Nat.le_trans hB (Nat.le_of_lt (blk_lt hb))
 go_enter Tryz.func89, Tryz.ntmps89
 go_wp2_with (go_at_call 95; refine (cc_any B b p bs _ hp HH.out hB).mono ?_)
 rintro e w1 ⟨rfl, h1, k1, b1⟩
 obtain ⟨v, hb, ho⟩ := h1
 have c1 := blk_cell hb 1
 have f1 := blk_frozen hb 1
 have c1 : w1.cell? ⟨b, 1, none⟩ = some v := c1
 have hs1 : B ≤ w1.heap.size := Nat.le_trans hsz b1.size
 have HO := Aside0.mk ho
 have K1 := Aside0.mk k1
 have B1 := Aside0.mk b1
 have HBK := Aside0.mk hb
 clear ho k1 b1 hb
 go_wp2_with ((with_reducible refine gate_builtin (b := .append) (xs := #[.tmp 11, .tmp 13]) rfl ?_); at_builtin; refine Kd.R_append (Kd.int .u8) (w0 := W) B rfl (.tmp 11) (.tmp 13) 91 5 (.int .u8 0) 1 rfl Tryz.underlying91 infoB rfl (by decide) (by omega) v (nm bs) (c.toNat : Int) [.int .u8 (c.toNat : Int)] (fun _ => True) (fun _ => False) rfl rfl ?aP (fun _ hk => hk.elim) (fun _ _ => trivial) ?aO ?aB ?aS ?aL ?_; (case aP => exact rfl); (case aO => exact Kd.R_of_own HO.out (fun _ _ => trivial)); (case aB => exact B1.out); (case aS => exact hs1); (case aL => rw [HL.out]; omega); intro v7 w7 ho7 hb7 hg7 _; obtain ⟨A7, q7, rfl⟩ := Kd.R_slice ho7; have bk7 := blk_grown HBK.out hg7 (own_ne HO.out HBK.out (by simp)); have c7 := blk_cell bk7 1; have f7 := blk_frozen bk7 1; have c7 : w7.cell? ⟨b, 1, none⟩ = some v := c7; have O7 := Aside0.mk ho7; have B7 := Aside0.mk hb7; have G7 := Aside0.mk hg7; have BK7 := Aside0.mk bk7; clear ho7 hb7 hg7 bk7)
 go_ret
 refine ⟨rfl, ⟨_, blk_put BK7.out 1 _ rfl, ?_⟩, ?_, ?_⟩
 ·
  rw [nm_snoc]
  have := own_set (Kd.own_of_R O7.out) (a := ⟨b, 1, none⟩) (own_ne (Kd.own_of_R O7.out) BK7.out (by simp)) (.slice A7 (nm bs ++ [(c.toNat : Int)]).length q7)
  rw [show (nm bs ++ [(c.toNat : Int)]).length = (nm bs).length + 1 by simp] at this ⊢
  exact this
 ·
  exact K1.out.trans ((Kept.grown HO.out G7.out).trans (Kept.set b 1 _ _))
 ·
  exact B7.out.setCell (p := ⟨b, 1, none⟩) hB _
set_option maxHeartbeats 1000000 in
set_option maxRecDepth 100000 in
theorem ws_calls (B b : Nat) (p : Value) (bs : List UInt8) (s : ByteArray) (W : World) (hp : p = .pointer none ∨ p = .pointer (some ⟨b, 0, none⟩)) (h : Bd W B b p bs) (hB : B ≤ b) (hl : bs.length ≤ 1000000000000) (hs : s.size ≤ 1000000000000) :
  Calls Tryz.prog 60 #[.pointer (some ⟨b, 0, none⟩), .string s] W fun e w' => e = .returned (.tuple #[.int .i64 s.size, .nilIface]) ∧ Bd w' B b (.pointer (some ⟨b, 0, none⟩)) (bs ++ s.data.toList) ∧ Kept b W w' ∧ Below B W w' := by
 have HH := Aside0.mk h
 have hln := nm_length bs
 have HL := Aside0.mk hln
 clear h hln
 have hsz : B ≤ W.heap.size := by
  obtain ⟨v, hb, _⟩ := HH.out
  exact Nat.le_trans hB (Nat.le_of_lt (blk_lt hb))
 go_enter Tryz.func60, Tryz.ntmps60
 go_wp2_with (go_at_call 95; refine (cc_any B b p bs _ hp HH.out hB).mono ?_)
 rintro e w1 ⟨rfl, h1, k1, b1⟩
 obtain ⟨v, hb, ho⟩ := h1
 have c1 := blk_cell hb 1
 have f1 := blk_frozen hb 1
 have c1 : w1.cell? ⟨b, 1, none⟩ = some v := c1
 have hs1 : B ≤ w1.heap.size := Nat.le_trans hsz b1.size
 have HO := Aside0.mk ho
 have K1 := Aside0.mk k1
 have B1 := Aside0.mk b1
 have HBK := Aside0.mk hb
 clear ho k1 b1 hb
 go_wp2_with ((with_reducible refine gate_builtin (b := .append) (xs := #[.tmp 12, .tmp 13]) rfl ?_); at_builtin; refine print_append_str (w0 := W) B rfl (.tmp 12) (.tmp 13) 91 9 5 rfl Tryz.underlying91 Tryz.underlying9 infoB v (nm bs) s rfl rfl HO.out B1.out hs1 (by rw [HL.out]; omega) ?_; intro v7 w7 ho7 hb7 hg7; obtain ⟨A7, q7, rfl⟩ := own_slice ho7; have bk7 := blk_grown HBK.out hg7 (own_ne HO.out HBK.out (by simp)); have c7 := blk_cell bk7 1; have f7 := blk_frozen bk7 1; have c7 : w7.cell? ⟨b, 1, none⟩ = some v := c7; have O7 := Aside0.mk ho7; have B7 := Aside0.mk hb7; have G7 := Aside0.mk hg7; have BK7 := Aside0.mk bk7; clear ho7 hb7 hg7 bk7)
 go_ret2
 refine ⟨rfl, ⟨_, blk_put BK7.out 1 _ rfl, ?_⟩, ?_, ?_⟩
 ·
  have e : nm (bs ++ s.data.toList) = nm bs ++ bytesOf s := by simp [nm, bytesOf]
  rw [e]
  have := own_set O7.out (a := ⟨b, 1, none⟩) (own_ne O7.out BK7.out (by simp)) (.slice A7 (nm bs ++ bytesOf s).length q7)
  rw [show (nm bs ++ bytesOf s).length = (nm bs).length + (bytesOf s).length by simp] at this ⊢
  exact this
 ·
  exact K1.out.trans ((Kept.grown HO.out G7.out).trans (Kept.set b 1 _ _))
 ·
  exact B7.out.setCell (p := ⟨b, 1, none⟩) hB _
end Go.Proofs.YtbfndlfemhidaaaGreatDoor.LexW
/- lex: what its functions do, walked step by step. -/
namespace Go.Proofs.YtbfndlfemhidaaaGreatDoor.LexW
open Go.RowKit Go.Proofs.YtbfndlfemhidaaaGreatDoorW.PrintWords Go.Proofs.YtbfndlfemhidaaaGreatDoorW.PrintLast Go.Proofs.YtbfndlfemhidaaaGreatDoorW.PrintMore Go.Proofs.YtbfndlfemhidaaaGreatDoor.Lex
set_option linter.unusedVariables false
set_option linter.unusedSimpArgs false
def Row (W : World) (r : Nat) (s : ByteArray) : Prop := ∃ cur fz, W.heap[r]? = some (.cells cur 5 fz) ∧ fz ≠ (0, 0) ∧ ∀ j (h : j < s.size), cur[j]? = some (.int .u8 (s[j].toNat : Int))
theorem below_of_grown {W W' : World} (h : W.grownBy W' none) : Below W.heap.size W W' := ⟨h.os, h.tape, h.output, h.size, fun i hi => h.block i hi (by simp)⟩
theorem Row.same {W W' : World} {r : Nat} {s : ByteArray} (h : Row W r s) (e : W'.heap[r]? = W.heap[r]?) : Row W' r s := by
 obtain ⟨cur, fz, h1, h2⟩ := h
 exact ⟨cur, fz, e.trans h1, h2⟩
theorem Row.lt {W : World} {r : Nat} {s : ByteArray} (h : Row W r s) : r < W.heap.size := by
 obtain ⟨cur, fz, h1, h2⟩ := h
 exact blk_lt h1
theorem Row.kept {W W' : World} {r b : Nat} {s : ByteArray} (h : Row W r s) (k : Kept b W W') (hb : r ≠ b) : Row W' r s := by
 refine h.same (k.2 r h.lt hb fun cur e => ?_)
 obtain ⟨cur', fz, h1, h2, _⟩ := h
 rw [h1] at e
 injection e with e
 injection e with _ _ e
 exact h2 e
theorem Row.cell {W : World} {r : Nat} {s : ByteArray} (h : Row W r s) (j : Nat) (hj : j < s.size) : W.cell? ⟨r, j, none⟩ = some (.int .u8 (s[j].toNat : Int)) := by
 obtain ⟨cur, fz, h1, _, h3⟩ := h
 rw [Lib.cell_of_heap h1]
 exact h3 j hj
theorem sig_same {W W' : World} {m : Nat} (h : IsSig W m) (e : W'.heap[m]? = W.heap[m]?) : IsSig W' m := by
 obtain ⟨es, clock, h1, h2⟩ := h
 exact ⟨es, clock, e.trans h1, h2⟩
theorem sig_lt {W : World} {m : Nat} (h : IsSig W m) : m < W.heap.size := World.ownsMap.lt h
theorem sig_kept {W W' : World} {m b : Nat} (h : IsSig W m) (k : Kept b W W') (hb : m ≠ b) : IsSig W' m := by
 refine sig_same h (k.2 m (sig_lt h) hb fun cur e => ?_)
 obtain ⟨es, clock, h1, _⟩ := h
 rw [h1] at e
 cases e
theorem Bd.lt {W : World} {B b : Nat} {p : Value} {bs : List UInt8} (h : Bd W B b p bs) : b < W.heap.size := by
 obtain ⟨v, hb, _⟩ := h
 exact blk_lt hb
theorem own_below {W W' : World} {B n : Nat} {v : Value} {xs : List Value} (ho : W.ownsRow B 5 1 v n xs) (hb : Below W.heap.size W W') : W'.ownsRow B 5 1 v n xs := by
 refine ⟨ho.1, ho.2.imp id ?_⟩
 rintro ⟨g, cap, cur, rfl, h1, h2, h3⟩
 exact ⟨g, cap, cur, rfl, h1, blk_below h2 hb, h3⟩
theorem Bd.below {W W' : World} {B b : Nat} {p : Value} {bs : List UInt8} (h : Bd W B b p bs) (hb : Below W.heap.size W W') : Bd W' B b p bs := by
 obtain ⟨v, h1, h2⟩ := h
 exact ⟨v, blk_below h1 hb, own_below h2 hb⟩
theorem row_made (W : World) (s : ByteArray) : Row (Lib.bytesWorld W 5 s) W.heap.size s := by
 have hsz : (Lib.bytesCells W 5 s).size = Nat.max s.size (grownCap W s.size 0 5) ∨ True := .inr trivial
 have h1 : (W.drew.alloc (.cells (Lib.bytesCells W 5 s) 5)).heap[W.heap.size]? = some (.cells (Lib.bytesCells W 5 s) 5 (0, 0)) := MapKept.heap_alloc W.drew _ |>.1
 refine ⟨Lib.bytesCells W 5 s, ((Lib.bytesCells W 5 s).size, (Lib.bytesCells W 5 s).size + 1), ?_, by simp, fun j hj => ?_⟩
 ·
  unfold Lib.bytesWorld World.freeze
  rw [if_neg (by decide)]
  simp only [Array.getElem?_modify, if_pos, h1]
  rfl
 ·
  have hj' : j < s.data.size := hj
  unfold Lib.bytesCells
  rw [Array.getElem?_append_left (by simpa using hj'), Array.getElem?_map, Array.getElem?_eq_getElem hj']
  rfl
def Beh (c : UInt8) (left : Lit → Bool) (v : Int) : Prop := (v = 0 ∧ ∀ x, escL x = some c → left (.int .u8 x.toNat) = true) ∨ (v = (unescL c).toNat ∧ unescL c ≠ 0)
theorem esc_back {x c : UInt8} (h : escL x = some c) : unescL c = x ∧ x ≠ 0 := by
 have := Go.Proofs.YtbfndlfemhidaaaGreatDoor.Lex.bytes (p := fun x => match escL x with | none => true | some y => unescL y == x && x != 0) (by decide +kernel) x
 rw [h] at this
 simpa using this
theorem beh_end {c : UInt8} {left : Lit → Bool} {v : Int} (h : Beh c left v) (hl : ∀ k, left k = false) : v = (unescL c).toNat := by
 rcases h with ⟨rfl, h⟩ | ⟨h, _⟩
 ·
  by_cases h0 : unescL c = 0
  ·
   rw [h0]; rfl
  ·
   have := h _ (esc_unesc c h0)
   rw [hl] at this
   cases this
 ·
  exact h
theorem sig_read {x : Int} {e : Int} (h0 : 0 ≤ x) (h1 : x < 256) (hat : ∀ z : DataW Unit, SIGD.atKey (.int .u8 x) z = .lit (.int .u8 e)) : ∃ x' e' : UInt8, x = x'.toNat ∧ e = e'.toNat ∧ escL x' = some e' := by
 obtain ⟨n, rfl⟩ := Int.eq_ofNat_of_zero_le h0
 have hn : n < 256 := by omega
 have hx : (UInt8.ofNat n).toNat = n := by simp; omega
 refine ⟨UInt8.ofNat n, ?_⟩
 cases he : escL (UInt8.ofNat n) with
 | none =>
  have e0 := ((sig_at (UInt8.ofNat n) (bd 0)).2 he).2
  have e1 := ((sig_at (UInt8.ofNat n) (bd 1)).2 he).2
  rw [hx] at e0 e1
  have h0 := bd_inj ((hat (bd 0)).symm.trans e0)
  have h1 := bd_inj ((hat (bd 1)).symm.trans e1)
  omega
 | some y =>
  have hh := ((sig_at (UInt8.ofNat n) (bd 0)).1 y he).2
  rw [hx] at hh
  exact ⟨y, by rw [hx], bd_inj ((hat (bd 0)).symm.trans hh), rfl⟩
theorem conv2 (W : World) (B : Nat) (hB : B ≤ W.heap.size) (x : UInt8) :
  (convert 91 9 (.slice (some ⟨W.heap.size, 0, none⟩) 2 2)).run Tryz.prog (W.alloc (.cells #[.int .u8 92, .int .u8 (x.toNat : Int)] 5)) = .ok (.string ⟨#[92, x]⟩) (W.alloc (.cells #[.int .u8 92, .int .u8 (x.toNat : Int)] 5)) := by
 have h := own_string (P := Tryz.prog) (w := W.alloc (.cells #[.int .u8 92, .int .u8 (x.toNat : Int)] 5)) (base := B) (n := 2) (v := .slice (some ⟨W.heap.size, 0, none⟩) 2 2) (xs := nm [92, x]) (e' := 5) Tryz.underlying91 Tryz.underlying5 Tryz.underlying9
  ⟨rfl, .inr ⟨W.heap.size, 2, _, rfl, hB, (MapKept.heap_alloc W _).1, by omega, by decide, rfl, rfl⟩⟩
 rw [str_nm] at h
 exact h
theorem bd_builder {W : World} {B b : Nat} {p : Value} {bs : List UInt8} (hp : p = .pointer none ∨ p = .pointer (some ⟨b, 0, none⟩)) (h : Bd W B b p bs) (hB : B ≤ b) : Lib.IsBuilderF 93 5 B b (Lib.byteCells bs) W := by
 obtain ⟨v, hb, ho⟩ := h
 have hn : v.ownBlock ≠ some b := fun e => own_ne ho hb (by simp) e.symm
 have e : nums .u8 (nm bs) = Lib.byteCells bs := by simp [nums, nm, Lib.byteCells]
 have hl : (nm bs).length = (Lib.byteCells bs).length := by simp [nm, Lib.byteCells]
 rw [e, hl] at ho
 rcases hp with rfl | rfl
 ·
  exact .inl ⟨hB, v, hb, World.ownsRowF_of ho, hn⟩
 ·
  exact .inr ⟨hB, v, hb, World.ownsRowF_of ho, hn⟩
theorem bd_made (W : World) : Bd (W.alloc (.cells #[.pointer none, .slice none 0 0] 93)) W.heap.size W.heap.size (.pointer none) [] := ⟨_, (MapKept.heap_alloc W _).1, rfl, .inl ⟨rfl, rfl⟩⟩
def shownF (s : ByteArray) : ByteArray × Bool := match shownL s.data.toList [34] with | none => (⟨#[]⟩, false) | some z => (⟨z.toArray⟩, true)
theorem retb {a a' : ByteArray} {b b' : Bool} (h : (a, b) = (a', b')) : Ending.returned (.tuple #[.string a, .bool b]) = Ending.returned (.tuple #[.string a', .bool b']) := by
 cases h
 rfl
set_option maxHeartbeats 1000000 in
set_option maxRecDepth 100000 in
theorem shown_calls (s : ByteArray) (hs : s.size ≤ 100000000000) (w : World) : Calls Tryz.prog 56 #[.string s] w fun e w' =>
  e = .returned (.tuple #[.string (shownF s).1, .bool (shownF s).2]) ∧ Below w.heap.size w w' := by
 obtain ⟨res, hres⟩ : ∃ r, r = shownL s.data.toList [34] := ⟨_, rfl⟩
 have hfin : ∀ a b, (match res with | none => ((⟨#[]⟩ : ByteArray), false) | some z => (⟨z.toArray⟩, true)) = (a, b) → shownF s = (a, b) := by
  intro a b h
  unfold shownF
  rw [← hres]
  exact h
 have FIN := Aside0.mk hfin
 have RES := Aside0.mk hres
 clear hres hfin
 have bm := bd_made w
 have BM := Aside0.mk bm
 clear bm
 go_enter Tryz.func56, Tryz.ntmps56
 go_wp2_with (first
  | (go_at_call 89; refine (wb_calls w.heap.size w.heap.size (.pointer none) [] 34 _ (.inl rfl) BM.out (Nat.le_refl _) (by simp)).mono ?_; rintro e w1 ⟨rfl, d1, k1, b1⟩; have D1 := Aside0.mk d1; have B1 : Aside0 (Below w.heap.size w w1) := ⟨((Below.refl w.heap.size w).alloc (Nat.le_refl _) _).trans b1⟩; clear d1 k1 b1)
  | (go_at_call 90; refine (signs_calls _).mono ?_; rintro e w2 ⟨rfl, hsig, hb⟩; have S2 := Aside0.mk hsig; have D2 := Aside0.mk (D1.out.below hb); have B2 := Aside0.mk (below_step B1.out hb); have L1 := Aside0.mk D1.out.lt; have NE := Aside0.mk (show w1.heap.size ≠ w.heap.size from Nat.ne_of_gt D1.out.lt); have hcv := Lib.run_convert_string_bytes (P := Tryz.prog) w2 9 91 5 s (u := .string) Tryz.underlying9 Tryz.underlying91 Tryz.underlying5; obtain ⟨w3, hw3⟩ : ∃ W, W = Lib.bytesWorld w2 5 s := ⟨_, rfl⟩; rw [← hw3] at hcv; have hb3 := Lib.bytesWorld_below w2 5 s; have hr3 := row_made w2 s; rw [← hw3] at hb3 hr3; have S3 := Aside0.mk (sig_same S2.out (hb3.block _ (sig_lt S2.out))); have D3 := Aside0.mk (D2.out.below hb3); have B3 := Aside0.mk (below_step B2.out hb3); have R3 := Aside0.mk hr3; have NR := Aside0.mk (show w2.heap.size ≠ w.heap.size from Nat.ne_of_gt D2.out.lt); clear hsig hb hw3 hb3 hr3))
 clear hcv S2 D2 B2 D1 B1 BM
 go_loopw [16] (fun v16 wx => ∃ (k : Nat) (out : List UInt8), v16 = .int .i64 (k : Int) ∧ Aside0 (k ≤ s.size ∧ out.length ≤ 2 * k + 1 ∧ shownL (s.data.toList.drop k) out = res) ∧ Aside0 (Bd wx w.heap.size w.heap.size (.pointer (some ⟨w.heap.size, 0, none⟩)) out) ∧ Aside0 (IsSig wx w1.heap.size) ∧ Aside0 (Row wx w2.heap.size s) ∧ Aside0 (Below w.heap.size w wx)) (fun v16 _ => s.size - (intOf v16).toNat)
 case atStart => exact ⟨0, [34], rfl, ⟨Nat.zero_le _, by simp, by rw [RES.out]; rfl⟩, D3, S3, R3, B3⟩
 case round =>
  clear RES S3 D3 B3 R3
  obtain ⟨k, out, rfl, HK, HD, HS, HR, HB⟩ := hrel
  obtain ⟨wo, rfl⟩ : ∃ wo : World, wo = wr := ⟨_, rfl⟩
  by_cases hk : k < s.size
  ·
   have hq := HK.out.2.2
   rw [drop_at s k hk, shownL] at hq
   have HQ := Aside0.mk hq
   clear hq
   have hc := HR.out.cell k hk
   have hlt := sig_lt HS.out
   have LT := Aside0.mk hlt
   clear hlt
   generalize hcc : s[k] = c at *
   have hc256 : c.toNat < 256 := c.toNat_lt
   clear hcc
   go_wp2_with (at_range; refine wpList_range_own _ rfl _ 118 rfl 5 5 byteLaw Tryz.underlying118 _ w1.heap.size 5 SIGD rfl HS.out ?_; intro w0 hrg0 hg0 hs0)
   go_frame
   go_loopw [8] (fun v8 wr => ∃ (left : Lit → Bool) (cnt : Nat) (v : Int), v8 = .int .u8 v ∧ Aside0 (wr.ranges Tryz.prog 5 (plainElem Tryz.prog 5) w1.heap.size wo.heap.size 5 SIGD left cnt) ∧ Aside0 (Beh c left v) ∧ Aside0 (Below wo.heap.size wo wr)) (fun _ wr => wr.rangeLeft w1.heap.size wo.heap.size)
   case atStart => exact ⟨_, _, 0, rfl, ⟨hrg0⟩, ⟨.inl ⟨rfl, fun x hx => ((sig_at x (bd 0)).1 c hx).1⟩⟩, ⟨below_of_grown hg0⟩⟩
   case round =>
    obtain ⟨left, cnt, v, rfl, RG, BH, BO⟩ := hrel
    go_wp2_with (at_next; refine wpList_next_ranges_ii _ rfl _ rfl 5 5 .u8 .u8 byteLaw Tryz.underlying5 Tryz.underlying5 w1.heap.size wo.heap.size 5 _ _ _ rfl RG.out ?_ ?_)
    ·
     intro _ hl0
     have hv := beh_end BH.out hl0
     subst hv
     have HD' := Aside0.mk (HD.out.below BO.out)
     have HS' := Aside0.mk (sig_same HS.out (BO.out.block _ LT.out))
     have HR' := Aside0.mk (HR.out.same (BO.out.block _ HR.out.lt))
     have HB' := Aside0.mk (below_step HB.out BO.out)
     clear HD HS HR HB RG BH hl0 BO hrg0 hg0 hs0
     have hsz := below_size HB'.out
     have HZ := Aside0.mk hsz
     clear hsz
     by_cases h0 : unescL c ≠ 0
     ·
      have t0 : (((unescL c).toNat : Int) != 0) = true := by
       rw [bne_iff_ne]
       intro h
       exact h0 (UInt8.toNat_inj.1 (by rw [Int.ofNat_inj.1 h]; rfl))
      have q2 := HQ.out
      rw [if_pos h0] at q2
      have HQ2 := Aside0.mk q2
      have HP := Aside0.mk h0
      clear q2 h0 HQ
      have hcv2 := conv2 wr w.heap.size HZ.out (unescL c)
      go_wp2_with (go_at_call 60; refine (ws_calls w.heap.size w.heap.size (.pointer (some ⟨w.heap.size, 0, none⟩)) out ⟨#[92, unescL c]⟩ _ (.inr rfl) (HD'.out.below (below_alloc (Below.refl _ _) _)) (Nat.le_refl _) (by have := HK.out; omega) (by simp [ByteArray.size])).mono ?_; rintro e w7 ⟨rfl, d7, k7, b7⟩; have D7 := Aside0.mk d7; have k8 := (Kept.alloc w.heap.size wr (.cells #[.int .u8 92, .int .u8 ((unescL c).toNat : Int)] 5)).trans k7; have S7 := Aside0.mk (sig_kept HS'.out k8 NE.out); have R7 := Aside0.mk (HR'.out.kept k8 NR.out); have B7 : Aside0 (Below w.heap.size w w7) := ⟨(below_alloc HB'.out _).trans b7⟩; clear d7 k7 b7 k8)
      go_roundw
      case rel => exact ⟨k + 1, out ++ [92, unescL c], by go_num, ⟨by omega, by have := HK.out; simp; omega, HQ2.out⟩, D7, S7, R7, B7⟩
      case measure => simp [intOf]; omega
     ·
      have h0 : unescL c = 0 := Decidable.not_not.1 h0
      have q2 := HQ.out
      rw [if_neg (by simp [h0])] at q2
      have t0 : (((unescL c).toNat : Int) != 0) = false := by rw [h0]; rfl
      have HP := Aside0.mk h0
      clear h0 HQ
      by_cases hp : plainC c = true
      ·
       rw [if_pos hp] at q2
       have HQ2 := Aside0.mk q2
       have hp' : 32 ≤ c.toNat ∧ c.toNat ≤ 126 := by simpa [plainC, UInt8.le_iff_toNat_le] using hp
       have d1 : decide ((c.toNat : Int) < 32) = false := decide_eq_false (by omega)
       have d2 : decide ((126 : Int) < (c.toNat : Int)) = false := decide_eq_false (by omega)
       clear q2 hp hp'
       go_wp2_with (go_at_call 89; refine (wb_calls w.heap.size w.heap.size (.pointer (some ⟨w.heap.size, 0, none⟩)) out c _ (.inr rfl) HD'.out (Nat.le_refl _) (by have := HK.out; omega)).mono ?_; rintro e w7 ⟨rfl, d7, k7, b7⟩; have D7 := Aside0.mk d7; have S7 := Aside0.mk (sig_kept HS'.out k7 NE.out); have R7 := Aside0.mk (HR'.out.kept k7 NR.out); have B7 : Aside0 (Below w.heap.size w w7) := ⟨HB'.out.trans b7⟩; clear d7 k7 b7)
       go_roundw
       case rel => exact ⟨k + 1, out ++ [c], by go_num, ⟨by omega, by have := HK.out; simp; omega, HQ2.out⟩, D7, S7, R7, B7⟩
       case measure => simp [intOf]; omega
      ·
       rw [if_neg hp] at q2
       have HQ2 := Aside0.mk q2
       have hp' : c.toNat < 32 ∨ 126 < c.toNat := by
        have : ¬ (32 ≤ c.toNat ∧ c.toNat ≤ 126) := by simpa [plainC, UInt8.le_iff_toNat_le] using hp
        omega
       clear q2 hp
       rcases hp' with hp' | hp'
       ·
        have d1 : decide ((c.toNat : Int) < 32) = true := decide_eq_true (by omega)
        go_wp2
        go_ret2
        exact ⟨retb (FIN.out _ _ (by rw [← HQ2.out])).symm, HB'.out⟩
       ·
        have d1 : decide ((c.toNat : Int) < 32) = false := decide_eq_false (by omega)
        have d2 : decide ((126 : Int) < (c.toNat : Int)) = true := decide_eq_true (by omega)
        go_wp2
        go_ret2
        exact ⟨retb (FIN.out _ _ (by rw [← HQ2.out])).symm, HB'.out⟩
    ·
     intro x e w1' cnt1 hwx hwc hlx hat hrg1 hlt hg1 hs1 hen
     have hx : 0 ≤ x ∧ x < 256 := by
      simp [Lit.wf, IntKind.min, IntKind.max, IntKind.signed, IntKind.bits] at hwx
      omega
     obtain ⟨x', e', rfl, rfl, hesc⟩ := sig_read hx.1 hx.2 hat
     have BO' := Aside0.mk (BO.out.grown hg1 BO.out.size (fun j hj => by cases hj; exact Nat.le_refl _))
     have RG' := Aside0.mk hrg1
     have MS := Aside0.mk (show wr.rangeLeft w1.heap.size wo.heap.size = cnt ∧ w1'.rangeLeft w1.heap.size wo.heap.size = cnt1 from ⟨RG.out.left_eq, hrg1.left_eq⟩)
     have LT1 := Aside0.mk hlt
     have ESC := Aside0.mk hesc
     clear hat hwx hwc hlx hrg1 hlt hg1 hs1 hesc hx hrg0 hg0 hs0
     by_cases hec : e' = c
     ·
      have t1 : ((e'.toNat : Int) == (c.toNat : Int)) = true := by rw [hec]; exact beq_self_eq_true _
      have HE := Aside0.mk hec
      clear hec
      go_wp2
      go_roundw
      case rel => exact ⟨_, cnt1, _, rfl, RG', ⟨.inr ⟨by have := esc_back (HE.out ▸ ESC.out); rw [this.1], by have := esc_back (HE.out ▸ ESC.out); rw [this.1]; exact this.2⟩⟩, BO'⟩
      case measure => rw [MS.out.1, MS.out.2]; exact LT1.out
     ·
      have t1 : ((e'.toNat : Int) == (c.toNat : Int)) = false := beq_eq_false_iff_ne.2 fun h => hec (UInt8.toNat_inj.1 (Int.ofNat_inj.1 h))
      have HE := Aside0.mk hec
      clear hec
      go_wp2
      go_roundw
      case rel =>
       refine ⟨_, cnt1, _, rfl, RG', ⟨BH.out.imp (fun ⟨hv, hl⟩ => ⟨hv, fun y hy => ?_⟩) id⟩, BO'⟩
       have hyx : y ≠ x' := fun h => by
        rw [h, ESC.out] at hy
        exact HE.out (Option.some.inj hy)
       have : (Lit.int .u8 (y.toNat : Int)).sameKey (.int .u8 (x'.toNat : Int)) = false := Maps.sameKey_ne (fun h => by
        injection h with _ h
        exact hyx (UInt8.toNat_inj.1 (Int.ofNat_inj.1 h)))
       show (left (.int .u8 (y.toNat : Int)) && !(Lit.int .u8 (y.toNat : Int)).sameKey (.int .u8 (x'.toNat : Int))) = true
       rw [hl y hy, this]
       rfl
      case measure => rw [MS.out.1, MS.out.2]; exact LT1.out
  ·
   have hq := HK.out.2.2
   rw [drop_end s k hk, shownL] at hq
   have HQ := Aside0.mk hq
   clear hq
   have hsz := below_size HB.out
   have HZ := Aside0.mk hsz
   clear hsz
   go_wp2_with (first
    | (go_at_call 89; refine (wb_calls w.heap.size w.heap.size (.pointer (some ⟨w.heap.size, 0, none⟩)) out 34 _ (.inr rfl) HD.out (Nat.le_refl _) (by have := HK.out; omega)).mono ?_; rintro e w7 ⟨rfl, d7, k7, b7⟩; have D7 := Aside0.mk d7; have B7 : Aside0 (Below w.heap.size w w7) := ⟨HB.out.trans b7⟩; have Z7 := Aside0.mk (Nat.le_of_lt d7.lt); clear d7 k7 b7)
    | (go_at_call 61; refine (Tryz.Builder_String_any_k w.heap.size w.heap.size (out ++ [34]) _ (bd_builder (.inr rfl) D7.out (Nat.le_refl _)) Z7.out).mono ?_; rintro e w8 ⟨rfl, _, b8, _⟩; have B8 : Aside0 (Below w.heap.size w w8) := ⟨B7.out.trans b8⟩; clear b8))
   go_ret2
   exact ⟨retb (FIN.out _ _ (by rw [← HQ.out])).symm, B8.out⟩
end Go.Proofs.YtbfndlfemhidaaaGreatDoor.LexW
/- lex: what its functions do, walked step by step. -/
namespace Go.Proofs.YtbfndlfemhidaaaGreatDoor.LexW
open Go.RowKit Go.Proofs.YtbfndlfemhidaaaGreatDoorW.PrintWords Go.Proofs.YtbfndlfemhidaaaGreatDoorW.PrintLast Go.Proofs.YtbfndlfemhidaaaGreatDoorW.PrintMore Go.Proofs.YtbfndlfemhidaaaGreatDoor.Lex
set_option linter.unusedVariables false
set_option linter.unusedSimpArgs false
theorem qac0 {P : Prop} (h : P := by first | rfl | (congr 1; omega)) : P := h
theorem lower_calls (c l : Int) (w : World) (h : Go.bits .or .u8 c 32 = l) : Calls Tryz.prog 140 #[.int .u8 c] w fun e w' => e = .returned (.int .u8 l) ∧ w' = w := by
 subst h
 exact Tryz.internal_strconv_lower c w
theorem hex_lower (c : UInt8) (h : hexC c = true) (hd : digitC c = false) : Go.bits .or .u8 (c.toNat : Int) 32 = (hexVal c : Int) + 87 ∧ 10 ≤ hexVal c ∧ hexVal c < 16 ∧ c ≠ 95 ∧ (c.toNat < 48 ∨ 57 < c.toNat) := by
 have := Go.Proofs.YtbfndlfemhidaaaGreatDoor.Lex.bytes (p := fun c => !hexC c || digitC c || (decide (Go.bits .or .u8 (c.toNat : Int) 32 = (hexVal c : Int) + 87) && decide (10 ≤ hexVal c) && decide (hexVal c < 16) && c != 95 && (decide (c.toNat < 48) || decide (57 < c.toNat)))) (by decide +kernel) c
 simp [h, hd] at this
 simp [this]
theorem dig_hex (c : UInt8) (hd : digitC c = true) : (hexVal c : Int) = (c.toNat : Int) - 48 ∧ 48 ≤ c.toNat ∧ c.toNat ≤ 57 ∧ c ≠ 95 := by
 have := Go.Proofs.YtbfndlfemhidaaaGreatDoor.Lex.bytes (p := fun c => !digitC c || (decide ((hexVal c : Int) = (c.toNat : Int) - 48) && decide (48 ≤ c.toNat) && decide (c.toNat ≤ 57) && c != 95)) (by decide +kernel) c
 simp [hd] at this
 simp [this]
def P16 (bs : List UInt8) (e : Ending) : Prop := (hexNat bs < 18446744073709551616 ∧ e = .returned (.tuple #[.int .u64 (hexNat bs : Nat), .nilIface])) ∨ (18446744073709551616 ≤ hexNat bs ∧ e = .returned (.tuple #[.int .u64 18446744073709551615, .iface 138 (.int .i64 1)]))
theorem hexNat_mono (a : List UInt8) : ∀ b : List UInt8, hexNat a ≤ hexNat (a ++ b) := by
 intro b
 induction b generalizing a with
 | nil => simp
 | cons c t ih =>
  have := ih (a ++ [c])
  rw [hexNat_snoc, List.append_assoc, List.singleton_append] at this
  omega
set_option maxHeartbeats 8000000 in
set_option maxRecDepth 100000 in
theorem pu16_inner (t : ByteArray) (hne : t.size ≠ 0) (hmax : t.size ≤ 1000000000000) (hall : ∀ c ∈ t.data.toList, hexC c = true) (w : World) :
  Calls Tryz.prog 129 #[.string t, .int .i64 16, .int .i64 64] w fun e w' => P16 t.data.toList e ∧ w' = Lib.bytesWorld w 5 t := by
 have hemp : t.toList.isEmpty = false := by
  rw [← decide_eq_emptyBytes]
  exact decide_eq_false (fun h => hne (by rw [h]; rfl))
 have hcv := Lib.run_convert_string_bytes (P := Tryz.prog) w 9 91 5 t (u := .string) Tryz.underlying9 Tryz.underlying91 Tryz.underlying5
 have hB : ∀ j, j < t.size → (Lib.bytesWorld w 5 t).cell? ⟨w.heap.size, j, none⟩ = some (.int .u8 (t.data.toList.getD j 0).toNat) := fun j hj => Lib.bytesWorld_cell w 5 t j hj
 obtain ⟨W1, hW1⟩ : ∃ W1, W1 = Lib.bytesWorld w 5 t := ⟨_, rfl⟩
 rw [← hW1] at hcv hB ⊢
 clear hW1
 have BB := Aside0.mk hB
 have HALL := Aside0.mk hall
 clear hB hall
 have hmv : IntKind.u64.wrap (IntKind.u64.wrap 18446744073709551616 - 1) = 18446744073709551615 := by
  rw [IntKind.wrap_u64, IntKind.wrap_u64]
  decide
 go_enter Tryz.func129, Tryz.ntmps129
 go_wp2
 clear hcv hemp
 go_loop [12, 13, 101] (fun vu vn vi => ∃ (k : Nat) (a : Int), vu = .bool false ∧ vn = .int .u64 a ∧ vi = .int .i64 (k : Int) ∧ Aside0 (k ≤ t.size ∧ a = (hexNat (t.data.toList.take k) : Nat)) ∧ 0 ≤ a ∧ a < 18446744073709551616) (fun _ _ vi => t.size - (intOf vi).toNat)
 case atStart => exact ⟨0, 0, rfl, rfl, rfl, ⟨by omega, rfl⟩, by omega, by omega⟩
 case round =>
  obtain ⟨k, a, rfl, rfl, rfl, HK, a0, a1⟩ := hrel
  by_cases hkn : k < t.size
  ·
   have hc := BB.out k hkn
   have hkl : k < t.data.toList.length := by rw [Array.length_toList]; exact hkn
   have hget : t.data.toList.getD k 0 = t.data.toList[k] := by simp [List.getD, List.getElem?_eq_getElem hkl]
   have htake : t.data.toList.take (k + 1) = t.data.toList.take k ++ [t.data.toList[k]] := by rw [List.take_succ_eq_append_getElem hkl]
   have hhex := HALL.out _ (List.getElem_mem hkl)
   rw [hget] at hc
   have HT := Aside0.mk (show hexNat (t.data.toList.take (k + 1)) = hexNat (t.data.toList.take k) * 16 + hexVal t.data.toList[k] by rw [htake, hexNat_snoc])
   have hmono := hexNat_mono (t.data.toList.take (k + 1)) (t.data.toList.drop (k + 1))
   rw [List.take_append_drop] at hmono
   have HM := Aside0.mk hmono
   clear hget htake hmono
   generalize hcc : t.data.toList[k] = c at hc hhex HT
   clear hcc
   have hc256 : c.toNat < 256 := c.toNat_lt
   by_cases hcut : 1152921504606846976 ≤ a
   ·
    have hR : 18446744073709551616 ≤ hexNat t.data.toList := by
     have := HK.out.2
     have := HT.out
     have := HM.out
     omega
    have HR := Aside0.mk hR
    clear hR
    by_cases hd : digitC c = true
    ·
     obtain ⟨v1, v2, v3, v4⟩ := dig_hex c hd
     have t95 := u8_not v4 (n := 95) rfl
     clear v1 v4 hd hhex
     go_wp2
     go_ret2
     exact ⟨.inr ⟨HR.out, rfl⟩, rfl⟩
    ·
     obtain ⟨v1, v2, v3, v4, v5⟩ := hex_lower c hhex (by simpa using hd)
     have t95 := u8_not v4 (n := 95) rfl
     obtain ⟨l, hl⟩ : ∃ l : Int, l = (hexVal c : Int) + 87 := ⟨_, rfl⟩
     rw [← hl] at v1
     have l0 : 97 ≤ l := by omega
     have l1 : l ≤ 102 := by omega
     have V1 := Aside0.mk v1
     clear v1 v2 v3 v4 hd hhex hl
     rcases v5 with v5 | v5
     ·
      go_wp2_with (go_at_call 140; refine (lower_calls _ l _ V1.out).mono ?_; rintro e w' ⟨rfl, rfl⟩)
      go_ret2
      exact ⟨.inr ⟨HR.out, rfl⟩, rfl⟩
     ·
      go_wp2_with (go_at_call 140; refine (lower_calls _ l _ V1.out).mono ?_; rintro e w' ⟨rfl, rfl⟩)
      go_ret2
      exact ⟨.inr ⟨HR.out, rfl⟩, rfl⟩
   ·
    have icut : a < 1152921504606846976 := by omega
    clear hcut
    by_cases hd : digitC c = true
    ·
     obtain ⟨v1, v2, v3, v4⟩ := dig_hex c hd
     have t95 := u8_not v4 (n := 95) rfl
     have V1 := Aside0.mk v1
     clear v1 v4 hd hhex
     go_wp2
     refine ⟨⟨k + 1, a * 16 + ((c.toNat : Int) - 48), rfl, qac0, qac0, ⟨by omega, by have := HK.out.2; have := HT.out; have := V1.out; omega⟩, by omega, by omega⟩, by simp [intOf]; omega⟩
    ·
     obtain ⟨v1, v2, v3, v4, v5⟩ := hex_lower c hhex (by simpa using hd)
     have t95 := u8_not v4 (n := 95) rfl
     obtain ⟨l, hl⟩ : ∃ l : Int, l = (hexVal c : Int) + 87 := ⟨_, rfl⟩
     rw [← hl] at v1
     have l0 : 97 ≤ l := by omega
     have l1 : l ≤ 102 := by omega
     have V1 := Aside0.mk v1
     have HL := Aside0.mk hl
     clear v1 v2 v3 v4 hd hhex hl
     rcases v5 with v5 | v5
     ·
      go_wp2_with (go_at_call 140; refine (lower_calls _ l _ V1.out).mono ?_; rintro e w' ⟨rfl, rfl⟩)
      refine ⟨⟨k + 1, a * 16 + (l - 97 + 10), rfl, qac0, qac0, ⟨by omega, by have := HK.out.2; have := HT.out; have := HL.out; omega⟩, by omega, by omega⟩, by simp [intOf]; omega⟩
     ·
      go_wp2_with (go_at_call 140; refine (lower_calls _ l _ V1.out).mono ?_; rintro e w' ⟨rfl, rfl⟩)
      refine ⟨⟨k + 1, a * 16 + (l - 97 + 10), rfl, qac0, qac0, ⟨by omega, by have := HK.out.2; have := HT.out; have := HL.out; omega⟩, by omega, by omega⟩, by simp [intOf]; omega⟩
  ·
   have hkk : k = t.size := by have := HK.out.1; omega
   have hf : a = (hexNat t.data.toList : Nat) := by
    rw [HK.out.2, hkk, List.take_of_length_le (by rw [Array.length_toList]; exact Nat.le_refl _)]
   have HF := Aside0.mk (show P16 t.data.toList (.returned (.tuple #[.int .u64 a, .nilIface])) from .inl ⟨by omega, by rw [hf]⟩)
   clear hf hkk
   go_wp2
   go_ret2
   exact ⟨HF.out, rfl⟩
end Go.Proofs.YtbfndlfemhidaaaGreatDoor.LexW
/- lex: what its functions do, walked step by step. -/
namespace Go.Proofs.YtbfndlfemhidaaaGreatDoor.LexP
open Go.RowKit Go.Proofs.YtbfndlfemhidaaaGreatDoorW.PrintWords Go.Proofs.YtbfndlfemhidaaaGreatDoorW.PrintLast Go.Proofs.YtbfndlfemhidaaaGreatDoorW.PrintMore
theorem qad2 {P : Prop} (h : P := by first | rfl | (simp; done) | (simp [*]; done)) : P := h
theorem qad1 {P : Prop} (h : P := by first | (with_reducible assumption) | assumption) : P := h
theorem qad0 {P : Prop} (h : P := by (try simp only [List.map_toArray, List.map_cons, List.map_nil]); first | done | rfl | (simp only [List.length_drop, List.length_take]; rfl)) : P := h
attribute [local go_sem] max2_int min2_int max_two min_two max_three min_three max_four min_four   -- for this text's walks alone
set_option linter.unusedVariables false
set_option linter.unusedSimpArgs false

def lex_start.f (a0 : Int) : Option (Bool) := if a0 ≥ 97 then (if a0 ≤ 122 then (some true) else (if a0 ≥ 65 then (if a0 ≤ 90 then (some true) else (if a0 = 95 then (some true) else (if a0 = 46 then (some true) else (if a0 = 36 then (some true) else (some (a0 == 37)))))) else (if a0 = 95 then (some true) else (if a0 = 46 then (some true) else (if a0 = 36 then (some true) else (some (a0 == 37))))))) else (if a0 ≥ 65 then (if a0 ≤ 90 then (some true) else (if a0 = 95 then (some true) else (if a0 = 46 then (some true) else (if a0 = 36 then (some true) else (some (a0 == 37)))))) else (if a0 = 95 then (some true) else (if a0 = 46 then (some true) else (if a0 = 36 then (some true) else (some (a0 == 37))))))
set_option maxHeartbeats 8000000 in
set_option maxRecDepth 100000 in
theorem lex_start.calls (a0 : Int) (r : Bool) (w : World) (h : lex_start.f a0 = some r) :
  Calls Tryz.prog 75 #[.int .u8 a0] w fun e w' => e = .returned (.bool r) ∧ Drawn0 w w' := by
 have H : (if a0 ≥ 97 then (if a0 ≤ 122 then (some true) else (if a0 ≥ 65 then (if a0 ≤ 90 then (some true) else (if a0 = 95 then (some true) else (if a0 = 46 then (some true) else (if a0 = 36 then (some true) else (some (a0 == 37)))))) else (if a0 = 95 then (some true) else (if a0 = 46 then (some true) else (if a0 = 36 then (some true) else (some (a0 == 37))))))) else (if a0 ≥ 65 then (if a0 ≤ 90 then (some true) else (if a0 = 95 then (some true) else (if a0 = 46 then (some true) else (if a0 = 36 then (some true) else (some (a0 == 37)))))) else (if a0 = 95 then (some true) else (if a0 = 46 then (some true) else (if a0 = 36 then (some true) else (some (a0 == 37))))))) = some r := h
 clear h
 by_cases c2 : a0 ≥ 97
 ·
  rw [if_pos c2] at H
  have c2b0 : decide (97 ≤ a0) = true := decide_eq_true c2
  clear c2
  by_cases c3 : a0 ≤ 122
  ·
   rw [if_pos c3] at H
   have c3b0 : decide (a0 ≤ 122) = true := decide_eq_true c3
   clear c3
   obtain rfl := Option.some.inj H
   go_enter Tryz.func75, Tryz.ntmps75
   go_wp2
   go_ret
   exact ⟨by first | rfl | (simp; done) | (simp [*]; done), by repeat (first | exact Drawn0.refl _ | apply Drawn0.step)⟩
  ·
   rw [if_neg c3] at H
   have c3b0 : decide (a0 ≤ 122) = false := decide_eq_false c3
   clear c3
   by_cases c4 : a0 ≥ 65
   ·
    rw [if_pos c4] at H
    have c4b0 : decide (65 ≤ a0) = true := decide_eq_true c4
    clear c4
    by_cases c5 : a0 ≤ 90
    ·
     rw [if_pos c5] at H
     have c5b0 : decide (a0 ≤ 90) = true := decide_eq_true c5
     clear c5
     obtain rfl := Option.some.inj H
     go_enter Tryz.func75, Tryz.ntmps75
     go_wp2
     go_ret
     exact ⟨by first | rfl | (simp; done) | (simp [*]; done), by repeat (first | exact Drawn0.refl _ | apply Drawn0.step)⟩
    ·
     rw [if_neg c5] at H
     have c5b0 : decide (a0 ≤ 90) = false := decide_eq_false c5
     clear c5
     by_cases c6 : a0 = 95
     ·
      rw [if_pos c6] at H
      have c6b0 : (a0 == 95) = true := beq_iff_eq.mpr c6
      have c6b1 : (a0 != 95) = false := bne_eq_false_iff_eq.mpr c6
      clear c6
      obtain rfl := Option.some.inj H
      go_enter Tryz.func75, Tryz.ntmps75
      go_wp2
      go_ret
      exact ⟨by first | rfl | (simp; done) | (simp [*]; done), by repeat (first | exact Drawn0.refl _ | apply Drawn0.step)⟩
     ·
      rw [if_neg c6] at H
      have c6b0 : (a0 == 95) = false := beq_eq_false_iff_ne.mpr c6
      have c6b1 : (a0 != 95) = true := bne_iff_ne.mpr c6
      by_cases c7 : a0 = 46
      ·
       rw [if_pos c7] at H
       have c7b0 : (a0 == 46) = true := beq_iff_eq.mpr c7
       have c7b1 : (a0 != 46) = false := bne_eq_false_iff_eq.mpr c7
       clear c7
       obtain rfl := Option.some.inj H
       go_enter Tryz.func75, Tryz.ntmps75
       go_wp2
       go_ret
       exact ⟨by first | rfl | (simp; done) | (simp [*]; done), by repeat (first | exact Drawn0.refl _ | apply Drawn0.step)⟩
      ·
       rw [if_neg c7] at H
       have c7b0 : (a0 == 46) = false := beq_eq_false_iff_ne.mpr c7
       have c7b1 : (a0 != 46) = true := bne_iff_ne.mpr c7
       by_cases c8 : a0 = 36
       ·
        rw [if_pos c8] at H
        have c8b0 : (a0 == 36) = true := beq_iff_eq.mpr c8
        have c8b1 : (a0 != 36) = false := bne_eq_false_iff_eq.mpr c8
        clear c8
        obtain rfl := Option.some.inj H
        go_enter Tryz.func75, Tryz.ntmps75
        go_wp2
        go_ret
        exact ⟨by first | rfl | (simp; done) | (simp [*]; done), by repeat (first | exact Drawn0.refl _ | apply Drawn0.step)⟩
       ·
        rw [if_neg c8] at H
        have c8b0 : (a0 == 36) = false := beq_eq_false_iff_ne.mpr c8
        have c8b1 : (a0 != 36) = true := bne_iff_ne.mpr c8
        obtain rfl := Option.some.inj H
        go_enter Tryz.func75, Tryz.ntmps75
        go_wp2
        go_ret
        exact ⟨by first | rfl | (simp; done) | (simp [*]; done), by repeat (first | exact Drawn0.refl _ | apply Drawn0.step)⟩
   ·
    rw [if_neg c4] at H
    have c4b0 : decide (65 ≤ a0) = false := decide_eq_false c4
    clear c4
    by_cases c9 : a0 = 95
    ·
     rw [if_pos c9] at H
     have c9b0 : (a0 == 95) = true := beq_iff_eq.mpr c9
     have c9b1 : (a0 != 95) = false := bne_eq_false_iff_eq.mpr c9
     clear c9
     obtain rfl := Option.some.inj H
     go_enter Tryz.func75, Tryz.ntmps75
     go_wp2
     go_ret
     exact ⟨by first | rfl | (simp; done) | (simp [*]; done), by repeat (first | exact Drawn0.refl _ | apply Drawn0.step)⟩
    ·
     rw [if_neg c9] at H
     have c9b0 : (a0 == 95) = false := beq_eq_false_iff_ne.mpr c9
     have c9b1 : (a0 != 95) = true := bne_iff_ne.mpr c9
     by_cases c10 : a0 = 46
     ·
      rw [if_pos c10] at H
      have c10b0 : (a0 == 46) = true := beq_iff_eq.mpr c10
      have c10b1 : (a0 != 46) = false := bne_eq_false_iff_eq.mpr c10
      clear c10
      obtain rfl := Option.some.inj H
      go_enter Tryz.func75, Tryz.ntmps75
      go_wp2
      go_ret
      exact ⟨by first | rfl | (simp; done) | (simp [*]; done), by repeat (first | exact Drawn0.refl _ | apply Drawn0.step)⟩
     ·
      rw [if_neg c10] at H
      have c10b0 : (a0 == 46) = false := beq_eq_false_iff_ne.mpr c10
      have c10b1 : (a0 != 46) = true := bne_iff_ne.mpr c10
      by_cases c11 : a0 = 36
      ·
       rw [if_pos c11] at H
       have c11b0 : (a0 == 36) = true := beq_iff_eq.mpr c11
       have c11b1 : (a0 != 36) = false := bne_eq_false_iff_eq.mpr c11
       clear c11
       obtain rfl := Option.some.inj H
       go_enter Tryz.func75, Tryz.ntmps75
       go_wp2
       go_ret
       exact ⟨by first | rfl | (simp; done) | (simp [*]; done), by repeat (first | exact Drawn0.refl _ | apply Drawn0.step)⟩
      ·
       rw [if_neg c11] at H
       have c11b0 : (a0 == 36) = false := beq_eq_false_iff_ne.mpr c11
       have c11b1 : (a0 != 36) = true := bne_iff_ne.mpr c11
       obtain rfl := Option.some.inj H
       go_enter Tryz.func75, Tryz.ntmps75
       go_wp2
       go_ret
       exact ⟨by first | rfl | (simp; done) | (simp [*]; done), by repeat (first | exact Drawn0.refl _ | apply Drawn0.step)⟩
 ·
  rw [if_neg c2] at H
  have c2b0 : decide (97 ≤ a0) = false := decide_eq_false c2
  clear c2
  by_cases c12 : a0 ≥ 65
  ·
   rw [if_pos c12] at H
   have c12b0 : decide (65 ≤ a0) = true := decide_eq_true c12
   clear c12
   by_cases c13 : a0 ≤ 90
   ·
    rw [if_pos c13] at H
    have c13b0 : decide (a0 ≤ 90) = true := decide_eq_true c13
    clear c13
    obtain rfl := Option.some.inj H
    go_enter Tryz.func75, Tryz.ntmps75
    go_wp2
    go_ret
    exact ⟨by first | rfl | (simp; done) | (simp [*]; done), by repeat (first | exact Drawn0.refl _ | apply Drawn0.step)⟩
   ·
    rw [if_neg c13] at H
    have c13b0 : decide (a0 ≤ 90) = false := decide_eq_false c13
    clear c13
    by_cases c14 : a0 = 95
    ·
     rw [if_pos c14] at H
     have c14b0 : (a0 == 95) = true := beq_iff_eq.mpr c14
     have c14b1 : (a0 != 95) = false := bne_eq_false_iff_eq.mpr c14
     clear c14
     obtain rfl := Option.some.inj H
     go_enter Tryz.func75, Tryz.ntmps75
     go_wp2
     go_ret
     exact ⟨by first | rfl | (simp; done) | (simp [*]; done), by repeat (first | exact Drawn0.refl _ | apply Drawn0.step)⟩
    ·
     rw [if_neg c14] at H
     have c14b0 : (a0 == 95) = false := beq_eq_false_iff_ne.mpr c14
     have c14b1 : (a0 != 95) = true := bne_iff_ne.mpr c14
     by_cases c15 : a0 = 46
     ·
      rw [if_pos c15] at H
      have c15b0 : (a0 == 46) = true := beq_iff_eq.mpr c15
      have c15b1 : (a0 != 46) = false := bne_eq_false_iff_eq.mpr c15
      clear c15
      obtain rfl := Option.some.inj H
      go_enter Tryz.func75, Tryz.ntmps75
      go_wp2
      go_ret
      exact ⟨by first | rfl | (simp; done) | (simp [*]; done), by repeat (first | exact Drawn0.refl _ | apply Drawn0.step)⟩
     ·
      rw [if_neg c15] at H
      have c15b0 : (a0 == 46) = false := beq_eq_false_iff_ne.mpr c15
      have c15b1 : (a0 != 46) = true := bne_iff_ne.mpr c15
      by_cases c16 : a0 = 36
      ·
       rw [if_pos c16] at H
       have c16b0 : (a0 == 36) = true := beq_iff_eq.mpr c16
       have c16b1 : (a0 != 36) = false := bne_eq_false_iff_eq.mpr c16
       clear c16
       obtain rfl := Option.some.inj H
       go_enter Tryz.func75, Tryz.ntmps75
       go_wp2
       go_ret
       exact ⟨by first | rfl | (simp; done) | (simp [*]; done), by repeat (first | exact Drawn0.refl _ | apply Drawn0.step)⟩
      ·
       rw [if_neg c16] at H
       have c16b0 : (a0 == 36) = false := beq_eq_false_iff_ne.mpr c16
       have c16b1 : (a0 != 36) = true := bne_iff_ne.mpr c16
       obtain rfl := Option.some.inj H
       go_enter Tryz.func75, Tryz.ntmps75
       go_wp2
       go_ret
       exact ⟨by first | rfl | (simp; done) | (simp [*]; done), by repeat (first | exact Drawn0.refl _ | apply Drawn0.step)⟩
  ·
   rw [if_neg c12] at H
   have c12b0 : decide (65 ≤ a0) = false := decide_eq_false c12
   clear c12
   by_cases c17 : a0 = 95
   ·
    rw [if_pos c17] at H
    have c17b0 : (a0 == 95) = true := beq_iff_eq.mpr c17
    have c17b1 : (a0 != 95) = false := bne_eq_false_iff_eq.mpr c17
    clear c17
    obtain rfl := Option.some.inj H
    go_enter Tryz.func75, Tryz.ntmps75
    go_wp2
    go_ret
    exact ⟨by first | rfl | (simp; done) | (simp [*]; done), by repeat (first | exact Drawn0.refl _ | apply Drawn0.step)⟩
   ·
    rw [if_neg c17] at H
    have c17b0 : (a0 == 95) = false := beq_eq_false_iff_ne.mpr c17
    have c17b1 : (a0 != 95) = true := bne_iff_ne.mpr c17
    by_cases c18 : a0 = 46
    ·
     rw [if_pos c18] at H
     have c18b0 : (a0 == 46) = true := beq_iff_eq.mpr c18
     have c18b1 : (a0 != 46) = false := bne_eq_false_iff_eq.mpr c18
     clear c18
     obtain rfl := Option.some.inj H
     go_enter Tryz.func75, Tryz.ntmps75
     go_wp2
     go_ret
     exact ⟨by first | rfl | (simp; done) | (simp [*]; done), by repeat (first | exact Drawn0.refl _ | apply Drawn0.step)⟩
    ·
     rw [if_neg c18] at H
     have c18b0 : (a0 == 46) = false := beq_eq_false_iff_ne.mpr c18
     have c18b1 : (a0 != 46) = true := bne_iff_ne.mpr c18
     by_cases c19 : a0 = 36
     ·
      rw [if_pos c19] at H
      have c19b0 : (a0 == 36) = true := beq_iff_eq.mpr c19
      have c19b1 : (a0 != 36) = false := bne_eq_false_iff_eq.mpr c19
      clear c19
      obtain rfl := Option.some.inj H
      go_enter Tryz.func75, Tryz.ntmps75
      go_wp2
      go_ret
      exact ⟨by first | rfl | (simp; done) | (simp [*]; done), by repeat (first | exact Drawn0.refl _ | apply Drawn0.step)⟩
     ·
      rw [if_neg c19] at H
      have c19b0 : (a0 == 36) = false := beq_eq_false_iff_ne.mpr c19
      have c19b1 : (a0 != 36) = true := bne_iff_ne.mpr c19
      obtain rfl := Option.some.inj H
      go_enter Tryz.func75, Tryz.ntmps75
      go_wp2
      go_ret
      exact ⟨by first | rfl | (simp; done) | (simp [*]; done), by repeat (first | exact Drawn0.refl _ | apply Drawn0.step)⟩



def lex_digit.f (a0 : Int) : Option (Bool) := if a0 ≥ 48 then (some (decide (a0 ≤ 57))) else (some false)
set_option maxHeartbeats 8000000 in
set_option maxRecDepth 100000 in
theorem lex_digit.calls (a0 : Int) (r : Bool) (w : World) (h : lex_digit.f a0 = some r) :
  Calls Tryz.prog 88 #[.int .u8 a0] w fun e w' => e = .returned (.bool r) ∧ Drawn0 w w' := by
 have H : (if a0 ≥ 48 then (some (decide (a0 ≤ 57))) else (some false)) = some r := h
 clear h
 by_cases c2 : a0 ≥ 48
 ·
  rw [if_pos c2] at H
  have c2b0 : decide (48 ≤ a0) = true := decide_eq_true c2
  clear c2
  obtain rfl := Option.some.inj H
  go_enter Tryz.func88, Tryz.ntmps88
  go_wp2
  go_ret
  exact ⟨by first | rfl | (simp; done) | (simp [*]; done), by repeat (first | exact Drawn0.refl _ | apply Drawn0.step)⟩
 ·
  rw [if_neg c2] at H
  have c2b0 : decide (48 ≤ a0) = false := decide_eq_false c2
  clear c2
  obtain rfl := Option.some.inj H
  go_enter Tryz.func88, Tryz.ntmps88
  go_wp2
  go_ret
  exact ⟨by first | rfl | (simp; done) | (simp [*]; done), by repeat (first | exact Drawn0.refl _ | apply Drawn0.step)⟩


def lex_inside.f (a0 : Int) : Option (Bool) := (lex_start.f a0).bind fun t102 => (if t102 = true then (if a0 = 37 then ((lex_digit.f a0).bind fun t103 => (some t103)) else (some true)) else ((lex_digit.f a0).bind fun t104 => (some t104)))
set_option maxHeartbeats 8000000 in
set_option maxRecDepth 100000 in
theorem lex_inside.calls (a0 : Int) (r : Bool) (w : World) (h : lex_inside.f a0 = some r) :
  Calls Tryz.prog 77 #[.int .u8 a0] w fun e w' => e = .returned (.bool r) ∧ Drawn0 w w' := by
 have H : ((lex_start.f a0).bind fun t102 => (if t102 = true then (if a0 = 37 then ((lex_digit.f a0).bind fun t103 => (some t103)) else (some true)) else ((lex_digit.f a0).bind fun t104 => (some t104)))) = some r := h
 clear h
 replace H := Option.bind_eq_some_iff.mp H
 obtain ⟨t102, A20, H⟩ := H
 replace H : (if t102 = true then (if a0 = 37 then ((lex_digit.f a0).bind fun t103 => (some t103)) else (some true)) else ((lex_digit.f a0).bind fun t104 => (some t104))) = some r := H
 have A2 := Aside0.mk A20
 clear A20
 by_cases c3 : t102 = true
 ·
  subst c3
  have H1 : (if a0 = 37 then ((lex_digit.f a0).bind fun t103 => (some t103)) else (some true)) = some r := by rw [if_pos rfl] at H; exact H
  clear H
  have H := H1
  clear H1
  by_cases c4 : a0 = 37
  ·
   rw [if_pos c4] at H
   have c4b0 : (a0 == 37) = true := beq_iff_eq.mpr c4
   have c4b1 : (a0 != 37) = false := bne_eq_false_iff_eq.mpr c4
   clear c4
   replace H := Option.bind_eq_some_iff.mp H
   obtain ⟨t103, A50, H⟩ := H
   replace H : (some t103) = some r := H
   have A5 := Aside0.mk A50
   clear A50
   obtain rfl := Option.some.inj H
   go_enter Tryz.func77, Tryz.ntmps77
   go_wp2_with (first | ((with_reducible refine gate_callee (f := 75) rfl ?_); refine goesL_ (some 4) rfl rfl Tryz.func75 (by kernel_rfl) rfl #[.int .u8 a0] rfl qad0 ?_; (with_reducible refine (lex_start.calls a0 true _ A2.out).mono ?_); rintro e w' ⟨rfl, ⟨nd, rfl⟩⟩; refine ⟨_, rfl, ?_⟩) | (go_at_call 88; (with_reducible refine (lex_digit.calls a0 t103 _ A5.out).mono ?_); rintro e w' ⟨rfl, ⟨nd, rfl⟩⟩))
   go_ret
   exact ⟨by first | rfl | (simp; done) | (simp [*]; done), by repeat (first | exact Drawn0.refl _ | apply Drawn0.step)⟩
  ·
   rw [if_neg c4] at H
   have c4b0 : (a0 == 37) = false := beq_eq_false_iff_ne.mpr c4
   have c4b1 : (a0 != 37) = true := bne_iff_ne.mpr c4
   obtain rfl := Option.some.inj H
   go_enter Tryz.func77, Tryz.ntmps77
   go_wp2_with (first | ((with_reducible refine gate_callee (f := 75) rfl ?_); refine goesL_ (some 4) rfl rfl Tryz.func75 (by kernel_rfl) rfl #[.int .u8 a0] rfl qad0 ?_; (with_reducible refine (lex_start.calls a0 true _ A2.out).mono ?_); rintro e w' ⟨rfl, ⟨nd, rfl⟩⟩; refine ⟨_, rfl, ?_⟩))
   go_ret
   exact ⟨by first | rfl | (simp; done) | (simp [*]; done), by repeat (first | exact Drawn0.refl _ | apply Drawn0.step)⟩
 ·
  replace c3 := Bool.eq_false_iff.mpr c3
  subst c3
  have H1 : ((lex_digit.f a0).bind fun t104 => (some t104)) = some r := by rw [if_neg (show ¬ (false = true) by decide)] at H; exact H
  clear H
  have H := H1
  clear H1
  replace H := Option.bind_eq_some_iff.mp H
  obtain ⟨t104, A60, H⟩ := H
  replace H : (some t104) = some r := H
  have A6 := Aside0.mk A60
  clear A60
  obtain rfl := Option.some.inj H
  go_enter Tryz.func77, Tryz.ntmps77
  go_wp2_with (first | ((with_reducible refine gate_callee (f := 75) rfl ?_); refine goesL_ (some 4) rfl rfl Tryz.func75 (by kernel_rfl) rfl #[.int .u8 a0] rfl qad0 ?_; (with_reducible refine (lex_start.calls a0 false _ A2.out).mono ?_); rintro e w' ⟨rfl, ⟨nd, rfl⟩⟩; refine ⟨_, rfl, ?_⟩) | (go_at_call 88; (with_reducible refine (lex_digit.calls a0 t104 _ A6.out).mono ?_); rintro e w' ⟨rfl, ⟨nd, rfl⟩⟩))
  go_ret
  exact ⟨by first | rfl | (simp; done) | (simp [*]; done), by repeat (first | exact Drawn0.refl _ | apply Drawn0.step)⟩


def lex_many_by_lex_inside.l0 : Nat → ByteArray → Int → Option (Int)
 | 0, _, _ => none
 | k + 1, x0, x5 => if x5 < (x0.size : Int) then (if 0 ≤ x5 then ((lex_inside.f (bt x0 x5)).bind fun t105 => (if t105 = true then (lex_many_by_lex_inside.l0 k x0 (wrap64 (x5 + 1))) else (some x5))) else (none)) else (some x5)
def lex_many_by_lex_inside.f (k : Nat) (a0 : ByteArray)  : Option (Int) := lex_many_by_lex_inside.l0 k a0 0
theorem lex_many_by_lex_inside.mono_l : ∀ k, (∀ y0 y1, LeO (lex_many_by_lex_inside.l0 k y0 y1) (lex_many_by_lex_inside.l0 (k + 1) y0 y1))
 | 0 => fun _ _ r h => by simp [lex_many_by_lex_inside.l0] at h
 | k + 1 => by
  have ih0 := lex_many_by_lex_inside.mono_l k
  ·
   intro y0 y1
   unfold lex_many_by_lex_inside.l0
   repeat' first
   | (with_reducible exact ih0 _ _)
   | (with_reducible exact LeO.refl _)
   | (with_reducible exact LeO.none _)
   | (with_reducible refine LeO.ite ?_ ?_)
   | (with_reducible refine LeO.bind ?_ (fun _ => ?_))
   | exact ih0 _ _
   | exact LeO.none _
   | refine LeO.ite ?_ ?_
   | refine LeO.bind ?_ (fun _ => ?_)
theorem lex_many_by_lex_inside.mono : ∀ a0 k, LeO (lex_many_by_lex_inside.f k a0) (lex_many_by_lex_inside.f (k + 1) a0) := by
 intro a0 k
 have ih0 := lex_many_by_lex_inside.mono_l k
 unfold lex_many_by_lex_inside.f
 repeat' first
   | (with_reducible exact ih0 _ _)
   | (with_reducible exact LeO.refl _)
   | (with_reducible exact LeO.none _)
   | (with_reducible refine LeO.ite ?_ ?_)
   | (with_reducible refine LeO.bind ?_ (fun _ => ?_))
   | exact ih0 _ _
   | exact LeO.none _
   | refine LeO.ite ?_ ?_
   | refine LeO.bind ?_ (fun _ => ?_)
set_option maxHeartbeats 8000000 in
set_option maxRecDepth 100000 in
theorem lex_many_by_lex_inside.calls (k : Nat) (a0 : ByteArray)  (r : Int) (w : World) (h : lex_many_by_lex_inside.f k a0 = some r) :
  Calls Tryz.prog 76 #[.string a0, .func (.func 77) #[] #[]] w fun e w' => e = .returned (.int .i64 r) ∧ Drawn0 w w' := by
 have H : (lex_many_by_lex_inside.l0 k a0 0) = some r := h
 clear h
 have H' := Aside0.mk H
 clear H
 go_enter Tryz.func76, Tryz.ntmps76
 go_wp2
 go_loopg [5] k (fun kq v5 w' => ∃ (x5_1 : Int), v5 = .int .i64 x5_1 ∧ Aside0 (lex_many_by_lex_inside.l0 kq a0 x5_1 = some r) ∧ Aside0 (kq ≤ k) ∧ Drawn0 w w')
 case atStart => exact ⟨(0), qad2, H', ⟨Nat.le_refl _⟩, by repeat (first | exact Drawn0.refl _ | apply Drawn0.step)⟩
 case round =>
  clear H'
  try clear p2
  obtain ⟨x5_1, rfl, HA, HK1, ⟨m1, rfl⟩⟩ := hrel
  cases gk with
  | zero => exact absurd HA.out (by simp [lex_many_by_lex_inside.l0])
  | succ k1 =>
   have H := HA.out
   clear HA
   simp only [lex_many_by_lex_inside.l0] at H
   by_cases c3 : x5_1 < (a0.size : Int)
   ·
    rw [if_pos c3] at H
    have c3b0 : decide (x5_1 < (a0.size : Int)) = true := decide_eq_true c3
    clear c3
    by_cases c4 : 0 ≤ x5_1
    ·
     rw [if_pos c4] at H
     have c4b0 : decide (0 ≤ x5_1) = true := decide_eq_true c4
     clear c4
     replace H := Option.bind_eq_some_iff.mp H
     obtain ⟨t105, A60, H⟩ := H
     replace H : (if t105 = true then (lex_many_by_lex_inside.l0 k1 a0 (wrap64 (x5_1 + 1))) else (some x5_1)) = some r := H
     have A6 := Aside0.mk A60
     clear A60
     by_cases c7 : t105 = true
     ·
      subst c7
      have H1 : (lex_many_by_lex_inside.l0 k1 a0 (wrap64 (x5_1 + 1))) = some r := by rw [if_pos rfl] at H; exact H
      clear H
      have H := H1
      clear H1
      have H' := Aside0.mk H
      clear H
      have p5 : 0 ≤ (x5_1 : Int) := of_decide_eq_true qad1
      have q5 : x5_1 < (a0.size : Int) := of_decide_eq_true qad1
      have hx5 := bt_at a0 x5_1
      replace p5 := eq_true p5
      replace q5 := eq_true q5
      go_wp2_with (first | (go_at_call 77; (with_reducible refine (lex_inside.calls (bt a0 x5_1) true _ A6.out).mono ?_); rintro e w' ⟨rfl, ⟨nd, rfl⟩⟩))
      go_roundg k1
      case measure => have := HK1.out; omega
      case rel => exact ⟨(wrap64 (x5_1 + 1)), qad2, H', ⟨by have := HK1.out; omega⟩, by repeat (first | exact Drawn0.refl _ | apply Drawn0.step)⟩
     ·
      replace c7 := Bool.eq_false_iff.mpr c7
      subst c7
      have H1 : (some x5_1) = some r := by rw [if_neg (show ¬ (false = true) by decide)] at H; exact H
      clear H
      have H := H1
      clear H1
      obtain rfl := Option.some.inj H
      have p5 : 0 ≤ (x5_1 : Int) := of_decide_eq_true qad1
      have q5 : x5_1 < (a0.size : Int) := of_decide_eq_true qad1
      have hx5 := bt_at a0 x5_1
      replace p5 := eq_true p5
      replace q5 := eq_true q5
      go_wp2_with (first | (go_at_call 77; (with_reducible refine (lex_inside.calls (bt a0 x5_1) false _ A6.out).mono ?_); rintro e w' ⟨rfl, ⟨nd, rfl⟩⟩))
      go_ret
      exact ⟨by first | rfl | (simp; done) | (simp [*]; done), by repeat (first | exact Drawn0.refl _ | apply Drawn0.step)⟩
    ·
     rw [if_neg c4] at H
     exact absurd H (by simp)
   ·
    rw [if_neg c3] at H
    have c3b0 : decide (x5_1 < (a0.size : Int)) = false := decide_eq_false c3
    clear c3
    obtain rfl := Option.some.inj H
    go_wp2
    go_ret
    exact ⟨by first | rfl | (simp; done) | (simp [*]; done), by repeat (first | exact Drawn0.refl _ | apply Drawn0.step)⟩


def lex_name.f (k : Nat) (a0 : ByteArray) : Option (Bool) := if (a0.size : Int) ≥ 1 then (if (a0.size : Int) ≤ 32 then (if 0 < (a0.size : Int) then ((lex_start.f (bt a0 0)).bind fun t106 => (if t106 = true then (if 1 ≤ (a0.size : Int) then ((lex_many_by_lex_inside.f k (a0.extract 1 a0.size)).bind fun t107 => (some (t107 == (wrap64 ((a0.size : Int) - 1))))) else (none)) else (some false))) else (none)) else (some false)) else (some false)
theorem lex_name.mono : ∀ a0 k, LeO (lex_name.f k a0) (lex_name.f (k + 1) a0) := by
 intro a0 k
 unfold lex_name.f
 repeat' first
   | (with_reducible exact lex_many_by_lex_inside.mono _ _)
   | (with_reducible exact LeO.refl _)
   | (with_reducible exact LeO.none _)
   | (with_reducible refine LeO.ite ?_ ?_)
   | (with_reducible refine LeO.bind ?_ (fun _ => ?_))
   | exact lex_many_by_lex_inside.mono _ _
   | exact LeO.none _
   | refine LeO.ite ?_ ?_
   | refine LeO.bind ?_ (fun _ => ?_)
set_option maxHeartbeats 8000000 in
set_option maxRecDepth 100000 in
theorem lex_name.calls (k : Nat) (a0 : ByteArray) (r : Bool) (w : World) (h : lex_name.f k a0 = some r) :
  Calls Tryz.prog 53 #[.string a0] w fun e w' => e = .returned (.bool r) ∧ Drawn0 w w' := by
 have H : (if (a0.size : Int) ≥ 1 then (if (a0.size : Int) ≤ 32 then (if 0 < (a0.size : Int) then ((lex_start.f (bt a0 0)).bind fun t106 => (if t106 = true then (if 1 ≤ (a0.size : Int) then ((lex_many_by_lex_inside.f k (a0.extract 1 a0.size)).bind fun t107 => (some (t107 == (wrap64 ((a0.size : Int) - 1))))) else (none)) else (some false))) else (none)) else (some false)) else (some false)) = some r := h
 clear h
 by_cases c2 : (a0.size : Int) ≥ 1
 ·
  rw [if_pos c2] at H
  have c2b0 : decide (1 ≤ (a0.size : Int)) = true := decide_eq_true c2
  have c2b1 : decide (1 ≤ a0.size) = true := decide_eq_true (by omega)
  clear c2
  by_cases c3 : (a0.size : Int) ≤ 32
  ·
   rw [if_pos c3] at H
   have c3b0 : decide ((a0.size : Int) ≤ 32) = true := decide_eq_true c3
   have c3b1 : decide (a0.size ≤ 32) = true := decide_eq_true (by omega)
   clear c3
   by_cases c4 : 0 < (a0.size : Int)
   ·
    rw [if_pos c4] at H
    have c4b0 : decide (0 < (a0.size : Int)) = true := decide_eq_true c4
    have c4b1 : decide (0 < a0.size) = true := decide_eq_true (by omega)
    clear c4
    replace H := Option.bind_eq_some_iff.mp H
    obtain ⟨t106, A60, H⟩ := H
    replace H : (if t106 = true then (if 1 ≤ (a0.size : Int) then ((lex_many_by_lex_inside.f k (a0.extract 1 a0.size)).bind fun t107 => (some (t107 == (wrap64 ((a0.size : Int) - 1))))) else (none)) else (some false)) = some r := H
    have A6 := Aside0.mk A60
    clear A60
    by_cases c7 : t106 = true
    ·
     subst c7
     have H1 : (if 1 ≤ (a0.size : Int) then ((lex_many_by_lex_inside.f k (a0.extract 1 a0.size)).bind fun t107 => (some (t107 == (wrap64 ((a0.size : Int) - 1))))) else (none)) = some r := by rw [if_pos rfl] at H; exact H
     clear H
     have H := H1
     clear H1
     by_cases c8 : 1 ≤ (a0.size : Int)
     ·
      rw [if_pos c8] at H
      have c8b0 := eq_true c8
      have c8b1 : decide (1 ≤ (a0.size : Int)) = true := decide_eq_true c8
      clear c8
      replace H := Option.bind_eq_some_iff.mp H
      obtain ⟨t107, A90, H⟩ := H
      replace H : (some (t107 == (wrap64 ((a0.size : Int) - 1)))) = some r := H
      have A9 := Aside0.mk A90
      clear A90
      obtain rfl := Option.some.inj H
      have p5 : 0 ≤ (0 : Int) := (by omega)
      have q5 : 0 < a0.size := (by have : (0 : Int) < (a0.size : Int) := of_decide_eq_true qad1; omega)
      have hx5 : ∀ h : 0 < a0.size, ((a0[0]'h).toNat : Int) = bt a0 0 := bt_at a0 0
      clear p5
      have qi5 : (0 < (a0.size : Int)) = True := eq_true (of_decide_eq_true qad1)
      replace q5 := eq_true q5
      go_enter Tryz.func53, Tryz.ntmps53
      go_wp2_with (first | (go_at_call 75; (with_reducible refine (lex_start.calls (bt a0 0) true _ A6.out).mono ?_); rintro e w' ⟨rfl, ⟨nd, rfl⟩⟩) | (go_at_call 76; (with_reducible refine (lex_many_by_lex_inside.calls k (a0.extract 1 a0.size)  t107 _ A9.out).mono ?_); rintro e w' ⟨rfl, ⟨nd, rfl⟩⟩))
      go_ret
      exact ⟨by first | rfl | (simp; done) | (simp [*]; done), by repeat (first | exact Drawn0.refl _ | apply Drawn0.step)⟩
     ·
      rw [if_neg c8] at H
      exact absurd H (by simp)
    ·
     replace c7 := Bool.eq_false_iff.mpr c7
     subst c7
     have H1 : (some false) = some r := by rw [if_neg (show ¬ (false = true) by decide)] at H; exact H
     clear H
     have H := H1
     clear H1
     obtain rfl := Option.some.inj H
     have p5 : 0 ≤ (0 : Int) := (by omega)
     have q5 : 0 < a0.size := (by have : (0 : Int) < (a0.size : Int) := of_decide_eq_true qad1; omega)
     have hx5 : ∀ h : 0 < a0.size, ((a0[0]'h).toNat : Int) = bt a0 0 := bt_at a0 0
     clear p5
     have qi5 : (0 < (a0.size : Int)) = True := eq_true (of_decide_eq_true qad1)
     replace q5 := eq_true q5
     go_enter Tryz.func53, Tryz.ntmps53
     go_wp2_with (first | (go_at_call 75; (with_reducible refine (lex_start.calls (bt a0 0) false _ A6.out).mono ?_); rintro e w' ⟨rfl, ⟨nd, rfl⟩⟩))
     go_ret
     exact ⟨by first | rfl | (simp; done) | (simp [*]; done), by repeat (first | exact Drawn0.refl _ | apply Drawn0.step)⟩
   ·
    rw [if_neg c4] at H
    exact absurd H (by simp)
  ·
   rw [if_neg c3] at H
   have c3b0 : decide ((a0.size : Int) ≤ 32) = false := decide_eq_false c3
   have c3b1 : decide (a0.size ≤ 32) = false := decide_eq_false (by omega)
   clear c3
   obtain rfl := Option.some.inj H
   go_enter Tryz.func53, Tryz.ntmps53
   go_wp2
   go_ret
   exact ⟨by first | rfl | (simp; done) | (simp [*]; done), by repeat (first | exact Drawn0.refl _ | apply Drawn0.step)⟩
 ·
  rw [if_neg c2] at H
  have c2b0 : decide (1 ≤ (a0.size : Int)) = false := decide_eq_false c2
  have c2b1 : decide (1 ≤ a0.size) = false := decide_eq_false (by omega)
  clear c2
  obtain rfl := Option.some.inj H
  go_enter Tryz.func53, Tryz.ntmps53
  go_wp2
  go_ret
  exact ⟨by first | rfl | (simp; done) | (simp [*]; done), by repeat (first | exact Drawn0.refl _ | apply Drawn0.step)⟩


def lex_many_by_lex_digit.l0 : Nat → ByteArray → Int → Option (Int)
 | 0, _, _ => none
 | k + 1, x0, x5 => if x5 < (x0.size : Int) then (if 0 ≤ x5 then ((lex_digit.f (bt x0 x5)).bind fun t108 => (if t108 = true then (lex_many_by_lex_digit.l0 k x0 (wrap64 (x5 + 1))) else (some x5))) else (none)) else (some x5)
def lex_many_by_lex_digit.f (k : Nat) (a0 : ByteArray)  : Option (Int) := lex_many_by_lex_digit.l0 k a0 0
theorem lex_many_by_lex_digit.mono_l : ∀ k, (∀ y0 y1, LeO (lex_many_by_lex_digit.l0 k y0 y1) (lex_many_by_lex_digit.l0 (k + 1) y0 y1))
 | 0 => fun _ _ r h => by simp [lex_many_by_lex_digit.l0] at h
 | k + 1 => by
  have ih0 := lex_many_by_lex_digit.mono_l k
  ·
   intro y0 y1
   unfold lex_many_by_lex_digit.l0
   repeat' first
   | (with_reducible exact ih0 _ _)
   | (with_reducible exact LeO.refl _)
   | (with_reducible exact LeO.none _)
   | (with_reducible refine LeO.ite ?_ ?_)
   | (with_reducible refine LeO.bind ?_ (fun _ => ?_))
   | exact ih0 _ _
   | exact LeO.none _
   | refine LeO.ite ?_ ?_
   | refine LeO.bind ?_ (fun _ => ?_)
theorem lex_many_by_lex_digit.mono : ∀ a0 k, LeO (lex_many_by_lex_digit.f k a0) (lex_many_by_lex_digit.f (k + 1) a0) := by
 intro a0 k
 have ih0 := lex_many_by_lex_digit.mono_l k
 unfold lex_many_by_lex_digit.f
 repeat' first
   | (with_reducible exact ih0 _ _)
   | (with_reducible exact LeO.refl _)
   | (with_reducible exact LeO.none _)
   | (with_reducible refine LeO.ite ?_ ?_)
   | (with_reducible refine LeO.bind ?_ (fun _ => ?_))
   | exact ih0 _ _
   | exact LeO.none _
   | refine LeO.ite ?_ ?_
   | refine LeO.bind ?_ (fun _ => ?_)
set_option maxHeartbeats 8000000 in
set_option maxRecDepth 100000 in
theorem lex_many_by_lex_digit.calls (k : Nat) (a0 : ByteArray)  (r : Int) (w : World) (h : lex_many_by_lex_digit.f k a0 = some r) :
  Calls Tryz.prog 76 #[.string a0, .func (.func 88) #[] #[]] w fun e w' => e = .returned (.int .i64 r) ∧ Drawn0 w w' := by
 have H : (lex_many_by_lex_digit.l0 k a0 0) = some r := h
 clear h
 have H' := Aside0.mk H
 clear H
 go_enter Tryz.func76, Tryz.ntmps76
 go_wp2
 go_loopg [5] k (fun kq v5 w' => ∃ (x5_1 : Int), v5 = .int .i64 x5_1 ∧ Aside0 (lex_many_by_lex_digit.l0 kq a0 x5_1 = some r) ∧ Aside0 (kq ≤ k) ∧ Drawn0 w w')
 case atStart => exact ⟨(0), qad2, H', ⟨Nat.le_refl _⟩, by repeat (first | exact Drawn0.refl _ | apply Drawn0.step)⟩
 case round =>
  clear H'
  try clear p2
  obtain ⟨x5_1, rfl, HA, HK1, ⟨m1, rfl⟩⟩ := hrel
  cases gk with
  | zero => exact absurd HA.out (by simp [lex_many_by_lex_digit.l0])
  | succ k1 =>
   have H := HA.out
   clear HA
   simp only [lex_many_by_lex_digit.l0] at H
   by_cases c3 : x5_1 < (a0.size : Int)
   ·
    rw [if_pos c3] at H
    have c3b0 : decide (x5_1 < (a0.size : Int)) = true := decide_eq_true c3
    clear c3
    by_cases c4 : 0 ≤ x5_1
    ·
     rw [if_pos c4] at H
     have c4b0 : decide (0 ≤ x5_1) = true := decide_eq_true c4
     clear c4
     replace H := Option.bind_eq_some_iff.mp H
     obtain ⟨t108, A60, H⟩ := H
     replace H : (if t108 = true then (lex_many_by_lex_digit.l0 k1 a0 (wrap64 (x5_1 + 1))) else (some x5_1)) = some r := H
     have A6 := Aside0.mk A60
     clear A60
     by_cases c7 : t108 = true
     ·
      subst c7
      have H1 : (lex_many_by_lex_digit.l0 k1 a0 (wrap64 (x5_1 + 1))) = some r := by rw [if_pos rfl] at H; exact H
      clear H
      have H := H1
      clear H1
      have H' := Aside0.mk H
      clear H
      have p5 : 0 ≤ (x5_1 : Int) := of_decide_eq_true qad1
      have q5 : x5_1 < (a0.size : Int) := of_decide_eq_true qad1
      have hx5 := bt_at a0 x5_1
      replace p5 := eq_true p5
      replace q5 := eq_true q5
      go_wp2_with (first | (go_at_call 88; (with_reducible refine (lex_digit.calls (bt a0 x5_1) true _ A6.out).mono ?_); rintro e w' ⟨rfl, ⟨nd, rfl⟩⟩))
      go_roundg k1
      case measure => have := HK1.out; omega
      case rel => exact ⟨(wrap64 (x5_1 + 1)), qad2, H', ⟨by have := HK1.out; omega⟩, by repeat (first | exact Drawn0.refl _ | apply Drawn0.step)⟩
     ·
      replace c7 := Bool.eq_false_iff.mpr c7
      subst c7
      have H1 : (some x5_1) = some r := by rw [if_neg (show ¬ (false = true) by decide)] at H; exact H
      clear H
      have H := H1
      clear H1
      obtain rfl := Option.some.inj H
      have p5 : 0 ≤ (x5_1 : Int) := of_decide_eq_true qad1
      have q5 : x5_1 < (a0.size : Int) := of_decide_eq_true qad1
      have hx5 := bt_at a0 x5_1
      replace p5 := eq_true p5
      replace q5 := eq_true q5
      go_wp2_with (first | (go_at_call 88; (with_reducible refine (lex_digit.calls (bt a0 x5_1) false _ A6.out).mono ?_); rintro e w' ⟨rfl, ⟨nd, rfl⟩⟩))
      go_ret
      exact ⟨by first | rfl | (simp; done) | (simp [*]; done), by repeat (first | exact Drawn0.refl _ | apply Drawn0.step)⟩
    ·
     rw [if_neg c4] at H
     exact absurd H (by simp)
   ·
    rw [if_neg c3] at H
    have c3b0 : decide (x5_1 < (a0.size : Int)) = false := decide_eq_false c3
    clear c3
    obtain rfl := Option.some.inj H
    go_wp2
    go_ret
    exact ⟨by first | rfl | (simp; done) | (simp [*]; done), by repeat (first | exact Drawn0.refl _ | apply Drawn0.step)⟩


def lex_local.f (k : Nat) (a0 : ByteArray) : Option (Bool) := (lex_many_by_lex_digit.f k a0).bind fun t109 => (if t109 ≥ 1 then (if t109 ≤ 9 then (if (a0.size : Int) = (wrap64 (t109 + 1)) then (if 0 ≤ t109 then (if t109 < (a0.size : Int) then (if (bt a0 t109) = 102 then (some true) else (some ((bt a0 t109) == 98))) else (none)) else (none)) else (some false)) else (some false)) else (some false))
theorem lex_local.mono : ∀ a0 k, LeO (lex_local.f k a0) (lex_local.f (k + 1) a0) := by
 intro a0 k
 unfold lex_local.f
 repeat' first
   | (with_reducible exact lex_many_by_lex_digit.mono _ _)
   | (with_reducible exact LeO.refl _)
   | (with_reducible exact LeO.none _)
   | (with_reducible refine LeO.ite ?_ ?_)
   | (with_reducible refine LeO.bind ?_ (fun _ => ?_))
   | exact lex_many_by_lex_digit.mono _ _
   | exact LeO.none _
   | refine LeO.ite ?_ ?_
   | refine LeO.bind ?_ (fun _ => ?_)
set_option maxHeartbeats 8000000 in
set_option maxRecDepth 100000 in
theorem lex_local.calls (k : Nat) (a0 : ByteArray) (r : Bool) (w : World) (h : lex_local.f k a0 = some r) :
  Calls Tryz.prog 54 #[.string a0] w fun e w' => e = .returned (.bool r) ∧ Drawn0 w w' := by
 have H : ((lex_many_by_lex_digit.f k a0).bind fun t109 => (if t109 ≥ 1 then (if t109 ≤ 9 then (if (a0.size : Int) = (wrap64 (t109 + 1)) then (if 0 ≤ t109 then (if t109 < (a0.size : Int) then (if (bt a0 t109) = 102 then (some true) else (some ((bt a0 t109) == 98))) else (none)) else (none)) else (some false)) else (some false)) else (some false))) = some r := h
 clear h
 replace H := Option.bind_eq_some_iff.mp H
 obtain ⟨t109, A20, H⟩ := H
 replace H : (if t109 ≥ 1 then (if t109 ≤ 9 then (if (a0.size : Int) = (wrap64 (t109 + 1)) then (if 0 ≤ t109 then (if t109 < (a0.size : Int) then (if (bt a0 t109) = 102 then (some true) else (some ((bt a0 t109) == 98))) else (none)) else (none)) else (some false)) else (some false)) else (some false)) = some r := H
 have A2 := Aside0.mk A20
 clear A20
 by_cases c3 : t109 ≥ 1
 ·
  rw [if_pos c3] at H
  have c3b0 : decide (1 ≤ t109) = true := decide_eq_true c3
  clear c3
  by_cases c4 : t109 ≤ 9
  ·
   rw [if_pos c4] at H
   have c4b0 : decide (t109 ≤ 9) = true := decide_eq_true c4
   clear c4
   by_cases c5 : (a0.size : Int) = (wrap64 (t109 + 1))
   ·
    rw [if_pos c5] at H
    have c5b0 : ((a0.size : Int) == (wrap64 (t109 + 1))) = true := beq_iff_eq.mpr c5
    have c5b1 : ((a0.size : Int) != (wrap64 (t109 + 1))) = false := bne_eq_false_iff_eq.mpr c5
    clear c5
    by_cases c6 : 0 ≤ t109
    ·
     rw [if_pos c6] at H
     have c6b0 : decide (0 ≤ t109) = true := decide_eq_true c6
     clear c6
     by_cases c7 : t109 < (a0.size : Int)
     ·
      rw [if_pos c7] at H
      have c7b0 : decide (t109 < (a0.size : Int)) = true := decide_eq_true c7
      clear c7
      by_cases c9 : (bt a0 t109) = 102
      ·
       rw [if_pos c9] at H
       have c9b0 : ((bt a0 t109) == 102) = true := beq_iff_eq.mpr c9
       have c9b1 : ((bt a0 t109) != 102) = false := bne_eq_false_iff_eq.mpr c9
       clear c9
       obtain rfl := Option.some.inj H
       go_enter Tryz.func54, Tryz.ntmps54
       go_wp2_with (first | ((with_reducible refine gate_callee (f := 76) rfl ?_); refine goesL_ (some 5) rfl rfl Tryz.func76 (by kernel_rfl) rfl #[.string a0, .func (.func 88) #[] #[]] rfl qad0 ?_; (with_reducible refine (lex_many_by_lex_digit.calls k a0  t109 _ A2.out).mono ?_); rintro e w' ⟨rfl, ⟨nd, rfl⟩⟩; refine ⟨_, rfl, ?_⟩; have p8 : 0 ≤ (t109 : Int) := of_decide_eq_true qad1; have q8 : t109 < (a0.size : Int) := of_decide_eq_true qad1; have hx8 := bt_at a0 t109; replace p8 := eq_true p8; replace q8 := eq_true q8))
       go_ret
       exact ⟨by first | rfl | (simp; done) | (simp [*]; done), by repeat (first | exact Drawn0.refl _ | apply Drawn0.step)⟩
      ·
       rw [if_neg c9] at H
       have c9b0 : ((bt a0 t109) == 102) = false := beq_eq_false_iff_ne.mpr c9
       have c9b1 : ((bt a0 t109) != 102) = true := bne_iff_ne.mpr c9
       obtain rfl := Option.some.inj H
       go_enter Tryz.func54, Tryz.ntmps54
       go_wp2_with (first | ((with_reducible refine gate_callee (f := 76) rfl ?_); refine goesL_ (some 5) rfl rfl Tryz.func76 (by kernel_rfl) rfl #[.string a0, .func (.func 88) #[] #[]] rfl qad0 ?_; (with_reducible refine (lex_many_by_lex_digit.calls k a0  t109 _ A2.out).mono ?_); rintro e w' ⟨rfl, ⟨nd, rfl⟩⟩; refine ⟨_, rfl, ?_⟩; have p8 : 0 ≤ (t109 : Int) := of_decide_eq_true qad1; have q8 : t109 < (a0.size : Int) := of_decide_eq_true qad1; have hx8 := bt_at a0 t109; replace p8 := eq_true p8; replace q8 := eq_true q8; have p10 : 0 ≤ (t109 : Int) := of_decide_eq_true qad1; have q10 : t109 < (a0.size : Int) := of_decide_eq_true qad1; have hx10 := bt_at a0 t109; replace p10 := eq_true p10; replace q10 := eq_true q10))
       go_ret
       exact ⟨by first | rfl | (simp; done) | (simp [*]; done), by repeat (first | exact Drawn0.refl _ | apply Drawn0.step)⟩
     ·
      rw [if_neg c7] at H
      exact absurd H (by simp)
    ·
     rw [if_neg c6] at H
     exact absurd H (by simp)
   ·
    rw [if_neg c5] at H
    have c5b0 : ((a0.size : Int) == (wrap64 (t109 + 1))) = false := beq_eq_false_iff_ne.mpr c5
    have c5b1 : ((a0.size : Int) != (wrap64 (t109 + 1))) = true := bne_iff_ne.mpr c5
    obtain rfl := Option.some.inj H
    go_enter Tryz.func54, Tryz.ntmps54
    go_wp2_with (first | ((with_reducible refine gate_callee (f := 76) rfl ?_); refine goesL_ (some 5) rfl rfl Tryz.func76 (by kernel_rfl) rfl #[.string a0, .func (.func 88) #[] #[]] rfl qad0 ?_; (with_reducible refine (lex_many_by_lex_digit.calls k a0  t109 _ A2.out).mono ?_); rintro e w' ⟨rfl, ⟨nd, rfl⟩⟩; refine ⟨_, rfl, ?_⟩))
    go_ret
    exact ⟨by first | rfl | (simp; done) | (simp [*]; done), by repeat (first | exact Drawn0.refl _ | apply Drawn0.step)⟩
  ·
   rw [if_neg c4] at H
   have c4b0 : decide (t109 ≤ 9) = false := decide_eq_false c4
   clear c4
   obtain rfl := Option.some.inj H
   go_enter Tryz.func54, Tryz.ntmps54
   go_wp2_with (first | ((with_reducible refine gate_callee (f := 76) rfl ?_); refine goesL_ (some 5) rfl rfl Tryz.func76 (by kernel_rfl) rfl #[.string a0, .func (.func 88) #[] #[]] rfl qad0 ?_; (with_reducible refine (lex_many_by_lex_digit.calls k a0  t109 _ A2.out).mono ?_); rintro e w' ⟨rfl, ⟨nd, rfl⟩⟩; refine ⟨_, rfl, ?_⟩))
   go_ret
   exact ⟨by first | rfl | (simp; done) | (simp [*]; done), by repeat (first | exact Drawn0.refl _ | apply Drawn0.step)⟩
 ·
  rw [if_neg c3] at H
  have c3b0 : decide (1 ≤ t109) = false := decide_eq_false c3
  clear c3
  obtain rfl := Option.some.inj H
  go_enter Tryz.func54, Tryz.ntmps54
  go_wp2_with (first | ((with_reducible refine gate_callee (f := 76) rfl ?_); refine goesL_ (some 5) rfl rfl Tryz.func76 (by kernel_rfl) rfl #[.string a0, .func (.func 88) #[] #[]] rfl qad0 ?_; (with_reducible refine (lex_many_by_lex_digit.calls k a0  t109 _ A2.out).mono ?_); rintro e w' ⟨rfl, ⟨nd, rfl⟩⟩; refine ⟨_, rfl, ?_⟩))
  go_ret
  exact ⟨by first | rfl | (simp; done) | (simp [*]; done), by repeat (first | exact Drawn0.refl _ | apply Drawn0.step)⟩


def lex_mark.f (a0 : Int) : Option (Bool) := if a0 = 44 then (some true) else (if a0 = 40 then (some true) else (if a0 = 41 then (some true) else (if a0 = 43 then (some true) else (if a0 = 45 then (some true) else (if a0 = 58 then (some true) else (some false))))))
set_option maxHeartbeats 8000000 in
set_option maxRecDepth 100000 in
theorem lex_mark.calls (a0 : Int) (r : Bool) (w : World) (h : lex_mark.f a0 = some r) :
  Calls Tryz.prog 55 #[.int .u8 a0] w fun e w' => e = .returned (.bool r) ∧ Drawn0 w w' := by
 have H : (if a0 = 44 then (some true) else (if a0 = 40 then (some true) else (if a0 = 41 then (some true) else (if a0 = 43 then (some true) else (if a0 = 45 then (some true) else (if a0 = 58 then (some true) else (some false))))))) = some r := h
 clear h
 by_cases c2 : a0 = 44
 ·
  rw [if_pos c2] at H
  have c2b0 : (a0 == 44) = true := beq_iff_eq.mpr c2
  have c2b1 : (a0 != 44) = false := bne_eq_false_iff_eq.mpr c2
  clear c2
  obtain rfl := Option.some.inj H
  go_enter Tryz.func55, Tryz.ntmps55
  go_wp2
  go_ret
  exact ⟨by first | rfl | (simp; done) | (simp [*]; done), by repeat (first | exact Drawn0.refl _ | apply Drawn0.step)⟩
 ·
  rw [if_neg c2] at H
  have c2b0 : (a0 == 44) = false := beq_eq_false_iff_ne.mpr c2
  have c2b1 : (a0 != 44) = true := bne_iff_ne.mpr c2
  by_cases c3 : a0 = 40
  ·
   rw [if_pos c3] at H
   have c3b0 : (a0 == 40) = true := beq_iff_eq.mpr c3
   have c3b1 : (a0 != 40) = false := bne_eq_false_iff_eq.mpr c3
   clear c3
   obtain rfl := Option.some.inj H
   go_enter Tryz.func55, Tryz.ntmps55
   go_wp2
   go_ret
   exact ⟨by first | rfl | (simp; done) | (simp [*]; done), by repeat (first | exact Drawn0.refl _ | apply Drawn0.step)⟩
  ·
   rw [if_neg c3] at H
   have c3b0 : (a0 == 40) = false := beq_eq_false_iff_ne.mpr c3
   have c3b1 : (a0 != 40) = true := bne_iff_ne.mpr c3
   by_cases c4 : a0 = 41
   ·
    rw [if_pos c4] at H
    have c4b0 : (a0 == 41) = true := beq_iff_eq.mpr c4
    have c4b1 : (a0 != 41) = false := bne_eq_false_iff_eq.mpr c4
    clear c4
    obtain rfl := Option.some.inj H
    go_enter Tryz.func55, Tryz.ntmps55
    go_wp2
    go_ret
    exact ⟨by first | rfl | (simp; done) | (simp [*]; done), by repeat (first | exact Drawn0.refl _ | apply Drawn0.step)⟩
   ·
    rw [if_neg c4] at H
    have c4b0 : (a0 == 41) = false := beq_eq_false_iff_ne.mpr c4
    have c4b1 : (a0 != 41) = true := bne_iff_ne.mpr c4
    by_cases c5 : a0 = 43
    ·
     rw [if_pos c5] at H
     have c5b0 : (a0 == 43) = true := beq_iff_eq.mpr c5
     have c5b1 : (a0 != 43) = false := bne_eq_false_iff_eq.mpr c5
     clear c5
     obtain rfl := Option.some.inj H
     go_enter Tryz.func55, Tryz.ntmps55
     go_wp2
     go_ret
     exact ⟨by first | rfl | (simp; done) | (simp [*]; done), by repeat (first | exact Drawn0.refl _ | apply Drawn0.step)⟩
    ·
     rw [if_neg c5] at H
     have c5b0 : (a0 == 43) = false := beq_eq_false_iff_ne.mpr c5
     have c5b1 : (a0 != 43) = true := bne_iff_ne.mpr c5
     by_cases c6 : a0 = 45
     ·
      rw [if_pos c6] at H
      have c6b0 : (a0 == 45) = true := beq_iff_eq.mpr c6
      have c6b1 : (a0 != 45) = false := bne_eq_false_iff_eq.mpr c6
      clear c6
      obtain rfl := Option.some.inj H
      go_enter Tryz.func55, Tryz.ntmps55
      go_wp2
      go_ret
      exact ⟨by first | rfl | (simp; done) | (simp [*]; done), by repeat (first | exact Drawn0.refl _ | apply Drawn0.step)⟩
     ·
      rw [if_neg c6] at H
      have c6b0 : (a0 == 45) = false := beq_eq_false_iff_ne.mpr c6
      have c6b1 : (a0 != 45) = true := bne_iff_ne.mpr c6
      by_cases c7 : a0 = 58
      ·
       rw [if_pos c7] at H
       have c7b0 : (a0 == 58) = true := beq_iff_eq.mpr c7
       have c7b1 : (a0 != 58) = false := bne_eq_false_iff_eq.mpr c7
       clear c7
       obtain rfl := Option.some.inj H
       go_enter Tryz.func55, Tryz.ntmps55
       go_wp2
       go_ret
       exact ⟨by first | rfl | (simp; done) | (simp [*]; done), by repeat (first | exact Drawn0.refl _ | apply Drawn0.step)⟩
      ·
       rw [if_neg c7] at H
       have c7b0 : (a0 == 58) = false := beq_eq_false_iff_ne.mpr c7
       have c7b1 : (a0 != 58) = true := bne_iff_ne.mpr c7
       obtain rfl := Option.some.inj H
       go_enter Tryz.func55, Tryz.ntmps55
       go_wp2
       go_ret
       exact ⟨by first | rfl | (simp; done) | (simp [*]; done), by repeat (first | exact Drawn0.refl _ | apply Drawn0.step)⟩










def lex_number_1.f (a0 : Int) : Option (Bool) := (lex_digit.f a0).bind fun t191 => (if t191 = true then (some true) else (if a0 ≥ 97 then (if a0 ≤ 102 then (some true) else (if a0 ≥ 65 then (some (decide (a0 ≤ 70))) else (some false))) else (if a0 ≥ 65 then (some (decide (a0 ≤ 70))) else (some false))))
set_option maxHeartbeats 8000000 in
set_option maxRecDepth 100000 in
theorem lex_number_1.calls (a0 : Int) (r : Bool) (w : World) (h : lex_number_1.f a0 = some r) :
  Calls Tryz.prog 106 #[.int .u8 a0] w fun e w' => e = .returned (.bool r) ∧ Drawn0 w w' := by
 have H : ((lex_digit.f a0).bind fun t191 => (if t191 = true then (some true) else (if a0 ≥ 97 then (if a0 ≤ 102 then (some true) else (if a0 ≥ 65 then (some (decide (a0 ≤ 70))) else (some false))) else (if a0 ≥ 65 then (some (decide (a0 ≤ 70))) else (some false))))) = some r := h
 clear h
 replace H := Option.bind_eq_some_iff.mp H
 obtain ⟨t191, A20, H⟩ := H
 replace H : (if t191 = true then (some true) else (if a0 ≥ 97 then (if a0 ≤ 102 then (some true) else (if a0 ≥ 65 then (some (decide (a0 ≤ 70))) else (some false))) else (if a0 ≥ 65 then (some (decide (a0 ≤ 70))) else (some false)))) = some r := H
 have A2 := Aside0.mk A20
 clear A20
 by_cases c3 : t191 = true
 ·
  subst c3
  have H1 : (some true) = some r := by rw [if_pos rfl] at H; exact H
  clear H
  have H := H1
  clear H1
  obtain rfl := Option.some.inj H
  go_enter Tryz.func106, Tryz.ntmps106
  go_wp2_with (first | ((with_reducible refine gate_callee (f := 88) rfl ?_); refine goesL_ (some 4) rfl rfl Tryz.func88 (by kernel_rfl) rfl #[.int .u8 a0] rfl qad0 ?_; (with_reducible refine (lex_digit.calls a0 true _ A2.out).mono ?_); rintro e w' ⟨rfl, ⟨nd, rfl⟩⟩; refine ⟨_, rfl, ?_⟩))
  go_ret
  exact ⟨by first | rfl | (simp; done) | (simp [*]; done), by repeat (first | exact Drawn0.refl _ | apply Drawn0.step)⟩
 ·
  replace c3 := Bool.eq_false_iff.mpr c3
  subst c3
  have H1 : (if a0 ≥ 97 then (if a0 ≤ 102 then (some true) else (if a0 ≥ 65 then (some (decide (a0 ≤ 70))) else (some false))) else (if a0 ≥ 65 then (some (decide (a0 ≤ 70))) else (some false))) = some r := by rw [if_neg (show ¬ (false = true) by decide)] at H; exact H
  clear H
  have H := H1
  clear H1
  by_cases c4 : a0 ≥ 97
  ·
   rw [if_pos c4] at H
   have c4b0 : decide (97 ≤ a0) = true := decide_eq_true c4
   clear c4
   by_cases c5 : a0 ≤ 102
   ·
    rw [if_pos c5] at H
    have c5b0 : decide (a0 ≤ 102) = true := decide_eq_true c5
    clear c5
    obtain rfl := Option.some.inj H
    go_enter Tryz.func106, Tryz.ntmps106
    go_wp2_with (first | ((with_reducible refine gate_callee (f := 88) rfl ?_); refine goesL_ (some 4) rfl rfl Tryz.func88 (by kernel_rfl) rfl #[.int .u8 a0] rfl qad0 ?_; (with_reducible refine (lex_digit.calls a0 false _ A2.out).mono ?_); rintro e w' ⟨rfl, ⟨nd, rfl⟩⟩; refine ⟨_, rfl, ?_⟩))
    go_ret
    exact ⟨by first | rfl | (simp; done) | (simp [*]; done), by repeat (first | exact Drawn0.refl _ | apply Drawn0.step)⟩
   ·
    rw [if_neg c5] at H
    have c5b0 : decide (a0 ≤ 102) = false := decide_eq_false c5
    clear c5
    by_cases c6 : a0 ≥ 65
    ·
     rw [if_pos c6] at H
     have c6b0 : decide (65 ≤ a0) = true := decide_eq_true c6
     clear c6
     obtain rfl := Option.some.inj H
     go_enter Tryz.func106, Tryz.ntmps106
     go_wp2_with (first | ((with_reducible refine gate_callee (f := 88) rfl ?_); refine goesL_ (some 4) rfl rfl Tryz.func88 (by kernel_rfl) rfl #[.int .u8 a0] rfl qad0 ?_; (with_reducible refine (lex_digit.calls a0 false _ A2.out).mono ?_); rintro e w' ⟨rfl, ⟨nd, rfl⟩⟩; refine ⟨_, rfl, ?_⟩))
     go_ret
     exact ⟨by first | rfl | (simp; done) | (simp [*]; done), by repeat (first | exact Drawn0.refl _ | apply Drawn0.step)⟩
    ·
     rw [if_neg c6] at H
     have c6b0 : decide (65 ≤ a0) = false := decide_eq_false c6
     clear c6
     obtain rfl := Option.some.inj H
     go_enter Tryz.func106, Tryz.ntmps106
     go_wp2_with (first | ((with_reducible refine gate_callee (f := 88) rfl ?_); refine goesL_ (some 4) rfl rfl Tryz.func88 (by kernel_rfl) rfl #[.int .u8 a0] rfl qad0 ?_; (with_reducible refine (lex_digit.calls a0 false _ A2.out).mono ?_); rintro e w' ⟨rfl, ⟨nd, rfl⟩⟩; refine ⟨_, rfl, ?_⟩))
     go_ret
     exact ⟨by first | rfl | (simp; done) | (simp [*]; done), by repeat (first | exact Drawn0.refl _ | apply Drawn0.step)⟩
  ·
   rw [if_neg c4] at H
   have c4b0 : decide (97 ≤ a0) = false := decide_eq_false c4
   clear c4
   by_cases c7 : a0 ≥ 65
   ·
    rw [if_pos c7] at H
    have c7b0 : decide (65 ≤ a0) = true := decide_eq_true c7
    clear c7
    obtain rfl := Option.some.inj H
    go_enter Tryz.func106, Tryz.ntmps106
    go_wp2_with (first | ((with_reducible refine gate_callee (f := 88) rfl ?_); refine goesL_ (some 4) rfl rfl Tryz.func88 (by kernel_rfl) rfl #[.int .u8 a0] rfl qad0 ?_; (with_reducible refine (lex_digit.calls a0 false _ A2.out).mono ?_); rintro e w' ⟨rfl, ⟨nd, rfl⟩⟩; refine ⟨_, rfl, ?_⟩))
    go_ret
    exact ⟨by first | rfl | (simp; done) | (simp [*]; done), by repeat (first | exact Drawn0.refl _ | apply Drawn0.step)⟩
   ·
    rw [if_neg c7] at H
    have c7b0 : decide (65 ≤ a0) = false := decide_eq_false c7
    clear c7
    obtain rfl := Option.some.inj H
    go_enter Tryz.func106, Tryz.ntmps106
    go_wp2_with (first | ((with_reducible refine gate_callee (f := 88) rfl ?_); refine goesL_ (some 4) rfl rfl Tryz.func88 (by kernel_rfl) rfl #[.int .u8 a0] rfl qad0 ?_; (with_reducible refine (lex_digit.calls a0 false _ A2.out).mono ?_); rintro e w' ⟨rfl, ⟨nd, rfl⟩⟩; refine ⟨_, rfl, ?_⟩))
    go_ret
    exact ⟨by first | rfl | (simp; done) | (simp [*]; done), by repeat (first | exact Drawn0.refl _ | apply Drawn0.step)⟩


def lex_many_by_lex_number_1.l0 : Nat → ByteArray → Int → Option (Int)
 | 0, _, _ => none
 | k + 1, x0, x5 => if x5 < (x0.size : Int) then (if 0 ≤ x5 then ((lex_number_1.f (bt x0 x5)).bind fun t207 => (if t207 = true then (lex_many_by_lex_number_1.l0 k x0 (wrap64 (x5 + 1))) else (some x5))) else (none)) else (some x5)
def lex_many_by_lex_number_1.f (k : Nat) (a0 : ByteArray)  : Option (Int) := lex_many_by_lex_number_1.l0 k a0 0
set_option maxHeartbeats 8000000 in
set_option maxRecDepth 100000 in
theorem lex_many_by_lex_number_1.calls (k : Nat) (a0 : ByteArray)  (r : Int) (w : World) (h : lex_many_by_lex_number_1.f k a0 = some r) :
  Calls Tryz.prog 76 #[.string a0, .func (.func 106) #[] #[]] w fun e w' => e = .returned (.int .i64 r) ∧ Drawn0 w w' := by
 have H : (lex_many_by_lex_number_1.l0 k a0 0) = some r := h
 clear h
 have H' := Aside0.mk H
 clear H
 go_enter Tryz.func76, Tryz.ntmps76
 go_wp2
 go_loopg [5] k (fun kq v5 w' => ∃ (x5_1 : Int), v5 = .int .i64 x5_1 ∧ Aside0 (lex_many_by_lex_number_1.l0 kq a0 x5_1 = some r) ∧ Aside0 (kq ≤ k) ∧ Drawn0 w w')
 case atStart => exact ⟨(0), qad2, H', ⟨Nat.le_refl _⟩, by repeat (first | exact Drawn0.refl _ | apply Drawn0.step)⟩
 case round =>
  clear H'
  try clear p2
  obtain ⟨x5_1, rfl, HA, HK1, ⟨m1, rfl⟩⟩ := hrel
  cases gk with
  | zero => exact absurd HA.out (by simp [lex_many_by_lex_number_1.l0])
  | succ k1 =>
   have H := HA.out
   clear HA
   simp only [lex_many_by_lex_number_1.l0] at H
   by_cases c3 : x5_1 < (a0.size : Int)
   ·
    rw [if_pos c3] at H
    have c3b0 : decide (x5_1 < (a0.size : Int)) = true := decide_eq_true c3
    clear c3
    by_cases c4 : 0 ≤ x5_1
    ·
     rw [if_pos c4] at H
     have c4b0 : decide (0 ≤ x5_1) = true := decide_eq_true c4
     clear c4
     replace H := Option.bind_eq_some_iff.mp H
     obtain ⟨t207, A60, H⟩ := H
     replace H : (if t207 = true then (lex_many_by_lex_number_1.l0 k1 a0 (wrap64 (x5_1 + 1))) else (some x5_1)) = some r := H
     have A6 := Aside0.mk A60
     clear A60
     by_cases c7 : t207 = true
     ·
      subst c7
      have H1 : (lex_many_by_lex_number_1.l0 k1 a0 (wrap64 (x5_1 + 1))) = some r := by rw [if_pos rfl] at H; exact H
      clear H
      have H := H1
      clear H1
      have H' := Aside0.mk H
      clear H
      have p5 : 0 ≤ (x5_1 : Int) := of_decide_eq_true qad1
      have q5 : x5_1 < (a0.size : Int) := of_decide_eq_true qad1
      have hx5 := bt_at a0 x5_1
      replace p5 := eq_true p5
      replace q5 := eq_true q5
      go_wp2_with (first | (go_at_call 106; (with_reducible refine (lex_number_1.calls (bt a0 x5_1) true _ A6.out).mono ?_); rintro e w' ⟨rfl, ⟨nd, rfl⟩⟩))
      go_roundg k1
      case measure => have := HK1.out; omega
      case rel => exact ⟨(wrap64 (x5_1 + 1)), qad2, H', ⟨by have := HK1.out; omega⟩, by repeat (first | exact Drawn0.refl _ | apply Drawn0.step)⟩
     ·
      replace c7 := Bool.eq_false_iff.mpr c7
      subst c7
      have H1 : (some x5_1) = some r := by rw [if_neg (show ¬ (false = true) by decide)] at H; exact H
      clear H
      have H := H1
      clear H1
      obtain rfl := Option.some.inj H
      have p5 : 0 ≤ (x5_1 : Int) := of_decide_eq_true qad1
      have q5 : x5_1 < (a0.size : Int) := of_decide_eq_true qad1
      have hx5 := bt_at a0 x5_1
      replace p5 := eq_true p5
      replace q5 := eq_true q5
      go_wp2_with (first | (go_at_call 106; (with_reducible refine (lex_number_1.calls (bt a0 x5_1) false _ A6.out).mono ?_); rintro e w' ⟨rfl, ⟨nd, rfl⟩⟩))
      go_ret
      exact ⟨by first | rfl | (simp; done) | (simp [*]; done), by repeat (first | exact Drawn0.refl _ | apply Drawn0.step)⟩
    ·
     rw [if_neg c4] at H
     exact absurd H (by simp)
   ·
    rw [if_neg c3] at H
    have c3b0 : decide (x5_1 < (a0.size : Int)) = false := decide_eq_false c3
    clear c3
    obtain rfl := Option.some.inj H
    go_wp2
    go_ret
    exact ⟨by first | rfl | (simp; done) | (simp [*]; done), by repeat (first | exact Drawn0.refl _ | apply Drawn0.step)⟩






end Go.Proofs.YtbfndlfemhidaaaGreatDoor.LexP
/- lex: what its functions do, walked step by step. -/
namespace Go.Proofs.YtbfndlfemhidaaaGreatDoor.LexW
open Go.RowKit Go.Proofs.YtbfndlfemhidaaaGreatDoor.LexP Go.Proofs.YtbfndlfemhidaaaGreatDoorW.PrintWords Go.Proofs.YtbfndlfemhidaaaGreatDoorW.PrintLast Go.Proofs.YtbfndlfemhidaaaGreatDoorW.PrintMore Go.Proofs.YtbfndlfemhidaaaGreatDoor.Lex
set_option linter.unusedVariables false
set_option linter.unusedSimpArgs false
theorem start_f (c : UInt8) : lex_start.f c.toNat = some (startC c) := by
 have := Go.Proofs.YtbfndlfemhidaaaGreatDoor.Lex.bytes (p := fun c => lex_start.f c.toNat == some (startC c)) (by decide +kernel) c
 simpa using this
theorem digit_f (c : UInt8) : lex_digit.f c.toNat = some (digitC c) := by
 have := Go.Proofs.YtbfndlfemhidaaaGreatDoor.Lex.bytes (p := fun c => lex_digit.f c.toNat == some (digitC c)) (by decide +kernel) c
 simpa using this
theorem inside_f (c : UInt8) : lex_inside.f c.toNat = some (insideC c) := by
 have := Go.Proofs.YtbfndlfemhidaaaGreatDoor.Lex.bytes (p := fun c => lex_inside.f c.toNat == some (insideC c)) (by decide +kernel) c
 simpa using this
theorem mark_f (c : UInt8) : lex_mark.f c.toNat = some (markC c) := by
 have := Go.Proofs.YtbfndlfemhidaaaGreatDoor.Lex.bytes (p := fun c => lex_mark.f c.toNat == some (markC c)) (by decide +kernel) c
 simpa using this
theorem hex_f (c : UInt8) : lex_number_1.f c.toNat = some (hexC c) := by
 have := Go.Proofs.YtbfndlfemhidaaaGreatDoor.Lex.bytes (p := fun c => lex_number_1.f c.toNat == some (hexC c)) (by decide +kernel) c
 simpa using this
theorem bt_lt (s : ByteArray) (i : Nat) (h : i < s.size) : bt s (i : Int) = (s[i].toNat : Int) := by simp [bt, h]
theorem many_drop (p : UInt8 → Bool) (s : ByteArray) (i : Nat) (h : i < s.size) : many p (s.data.toList.drop i) = if p s[i] then many p (s.data.toList.drop (i + 1)) + 1 else 0 := by
 rw [drop_at s i h, many]
theorem wrap_succ {i : Nat} (h : i < 9223372036854775807) : wrap64 ((i : Int) + 1) = ((i + 1 : Nat) : Int) := by unfold wrap64; omega
theorem many_loop {l0 : Nat → ByteArray → Int → Option Int} {q : Int → Option Bool} {p : UInt8 → Bool} (hq : ∀ c : UInt8, q c.toNat = some (p c))
  (hl : ∀ k x0 x5, l0 (k + 1) x0 x5 = if x5 < (x0.size : Int) then (if 0 ≤ x5 then ((q (bt x0 x5)).bind fun t105 => (if t105 = true then (l0 k x0 (wrap64 (x5 + 1))) else (some x5))) else none) else some x5)
  (s : ByteArray) (hs : s.size < 9223372036854775807) : ∀ (d i k : Nat), s.size = i + d → d < k → l0 k s (i : Int) = some ((i + many p (s.data.toList.drop i) : Nat) : Int) := by
 intro d
 induction d with
 | zero =>
  intro i k hi hk
  obtain ⟨k, rfl⟩ : ∃ m, k = m + 1 := ⟨k - 1, by omega⟩
  rw [hl, if_neg (by omega), drop_end s i (by omega)]
  simp [many]
 | succ d ih =>
  intro i k hi hk
  obtain ⟨k, rfl⟩ : ∃ m, k = m + 1 := ⟨k - 1, by omega⟩
  have hlt : i < s.size := by omega
  rw [hl, if_pos (by omega), if_pos (by omega), bt_lt s i hlt, hq, many_drop p s i hlt]
  simp only [Option.bind_some]
  by_cases hp : p s[i] = true
  ·
   rw [if_pos hp, if_pos hp, wrap_succ (by omega), ih (i + 1) k (by omega) (by omega)]
   congr 2
   omega
  ·
   rw [if_neg hp, if_neg hp]
   rfl
theorem many_inside_f (s : ByteArray) (hs : s.size < 9223372036854775807) (k : Nat) (hk : s.size < k) : lex_many_by_lex_inside.f k s = some ((many insideC s.data.toList : Nat) : Int) := by
 have := many_loop inside_f (fun _ _ _ => rfl) s hs s.size 0 k (by omega) hk (l0 := lex_many_by_lex_inside.l0)
 unfold lex_many_by_lex_inside.f
 simpa using this
theorem many_digit_f (s : ByteArray) (hs : s.size < 9223372036854775807) (k : Nat) (hk : s.size < k) : lex_many_by_lex_digit.f k s = some ((many digitC s.data.toList : Nat) : Int) := by
 have := many_loop digit_f (fun _ _ _ => rfl) s hs s.size 0 k (by omega) hk (l0 := lex_many_by_lex_digit.l0)
 unfold lex_many_by_lex_digit.f
 simpa using this
theorem many_hex_f (s : ByteArray) (hs : s.size < 9223372036854775807) (k : Nat) (hk : s.size < k) : lex_many_by_lex_number_1.f k s = some ((many hexC s.data.toList : Nat) : Int) := by
 have := many_loop hex_f (fun _ _ _ => rfl) s hs s.size 0 k (by omega) hk (l0 := lex_many_by_lex_number_1.l0)
 unfold lex_many_by_lex_number_1.f
 simpa using this
theorem size_data (s : ByteArray) : s.data.toList.length = s.size := by rw [Array.length_toList]; rfl
theorem extract_list (s : ByteArray) (a b : Nat) : (s.extract a b).data.toList = (s.data.toList.take b).drop a := by
 simp [ByteArray.data_extract, Array.toList_extract, List.extract_eq_take_drop, List.drop_take]
theorem name_f (s : ByteArray) (hs : s.size < 9223372036854775807) (k : Nat) (hk : s.size < k) : lex_name.f k s = some (nameL s.data.toList) := by
 unfold lex_name.f nameL
 have hsd := size_data s
 cases h : s.data.toList with
 | nil =>
  rw [h] at hsd
  simp only [List.length_nil] at hsd
  rw [if_neg (by omega)]
 | cons c t =>
  rw [h] at hsd
  simp only [List.length_cons] at hsd
  have h0 : 0 < s.size := by omega
  have hc : s[0] = c := by
   have := drop_at s 0 h0
   rw [List.drop_zero, h] at this
   injection this with this
   exact this.symm
  rw [if_pos (by omega)]
  by_cases hl : (s.size : Int) ≤ 32
  ·
   have hb := bt_lt s 0 h0
   rw [hc] at hb
   have he : (s.extract 1 s.size).data.toList = t := by
    rw [extract_list, h, List.take_of_length_le (by simp only [List.length_cons]; omega)]
    rfl
   have hes : (s.extract 1 s.size).size = t.length := by rw [← size_data, he]
   have hm := many_inside_f (s.extract 1 s.size) (by omega) k (by omega)
   rw [he] at hm
   rw [if_pos hl, if_pos (by omega), show bt s 0 = (c.toNat : Int) from hb, start_f, hm]
   simp only [Option.bind_some]
   have hw : wrap64 ((s.size : Int) - 1) = (t.length : Int) := by unfold wrap64; omega
   have e1 : decide (t.length < 32) = true := decide_eq_true (by omega)
   rw [if_pos (by omega : (1 : Int) ≤ s.size), hw, e1]
   by_cases hs : startC c = true
   ·
    rw [if_pos hs, hs]
    congr 1
    by_cases hm : many insideC t = t.length
    ·
     simp [hm]
    ·
     have : ¬ ((many insideC t : Nat) : Int) = (t.length : Int) := fun h => hm (Int.ofNat_inj.1 h)
     simp [hm, this]
   ·
    rw [if_neg hs]
    simp [hs]
  ·
   rw [if_neg hl]
   have e1 : decide (t.length < 32) = false := decide_eq_false (by omega)
   simp [e1]
theorem local_f (s : ByteArray) (hs : s.size < 9223372036854775807) (k : Nat) (hk : s.size < k) : lex_local.f k s = some (localL s.data.toList) := by
 unfold lex_local.f localL
 have hsd := size_data s
 rw [many_digit_f s hs k hk]
 simp only [Option.bind_some]
 have hle := many_le (p := digitC) s.data.toList
 generalize hn : many digitC s.data.toList = n at *
 by_cases h1 : 1 ≤ n
 ·
  rw [if_pos (by omega), decide_eq_true h1]
  by_cases h9 : n ≤ 9
  ·
   rw [if_pos (by omega), decide_eq_true h9]
   by_cases hl : s.data.toList.length = n + 1
   ·
    have hw : wrap64 ((n : Int) + 1) = ((n + 1 : Nat) : Int) := wrap_succ (by omega)
    rw [if_pos (by rw [hw]; omega), if_pos (by omega), if_pos (by omega), decide_eq_true hl]
    have hlt : n < s.size := by omega
    have hg : s.data.toList.getD n 0 = s[n] := by
     have : n < s.data.toList.length := by omega
     simp [List.getD, List.getElem?_eq_getElem this]
     rfl
    rw [bt_lt s n hlt, hg]
    generalize s[n] = c
    have := Go.Proofs.YtbfndlfemhidaaaGreatDoor.Lex.bytes (p := fun c => (if (c.toNat : Int) = 102 then some true else some ((c.toNat : Int) == 98)) == some (true && true && true && (c == 102 || c == 98))) (by decide +kernel) c
    simpa using this
   ·
    have hw : wrap64 ((n : Int) + 1) = ((n + 1 : Nat) : Int) := wrap_succ (by omega)
    rw [if_neg (by rw [hw]; omega), decide_eq_false hl]
    simp
  ·
   rw [if_neg (by omega), decide_eq_false h9]
   simp
 ·
  rw [if_neg (by omega), decide_eq_false h1]
  rfl
end Go.Proofs.YtbfndlfemhidaaaGreatDoor.LexW
/- lex: what its functions do, walked step by step. -/
namespace Go.Proofs.YtbfndlfemhidaaaGreatDoor.LexW
open Go.RowKit Go.Proofs.YtbfndlfemhidaaaGreatDoorW.PrintWords Go.Proofs.YtbfndlfemhidaaaGreatDoorW.PrintLast Go.Proofs.YtbfndlfemhidaaaGreatDoorW.PrintMore Go.Proofs.YtbfndlfemhidaaaGreatDoor.Lex
set_option linter.unusedVariables false
set_option linter.unusedSimpArgs false
def LexE (w : World) : Prop := (∃ ev, w.cell? ⟨2, 0, none⟩ = some ev ∧ (ev = .nilIface ∨ ∃ te pe, ev = .iface te pe)) ∧ (∃ ev, w.cell? ⟨3, 0, none⟩ = some ev ∧ (ev = .nilIface ∨ ∃ te pe, ev = .iface te pe))
theorem LexE.below {w w' : World} (h : LexE w) (hb : Below w.heap.size w w') : LexE w' := by
 obtain ⟨⟨e1, c1, h1⟩, ⟨e2, c2, h2⟩⟩ := h
 exact ⟨⟨e1, (hb.cell (p := ⟨2, 0, none⟩) (World.block_lt_of_cell? w _ c1)).trans c1, h1⟩, ⟨e2, (hb.cell (p := ⟨3, 0, none⟩) (World.block_lt_of_cell? w _ c2)).trans c2, h2⟩⟩
set_option maxHeartbeats 1000000 in
set_option maxRecDepth 100000 in
theorem pu_ok (t : ByteArray) (u : Int) (w : World) (h : Calls Tryz.prog 129 #[.string t, .int .i64 16, .int .i64 64] w fun e w' => e = .returned (.tuple #[.int .u64 u, .nilIface]) ∧ Below w.heap.size w w') :
  Calls Tryz.prog 107 #[.string t, .int .i64 16, .int .i64 64] w fun e w' => e = .returned (.tuple #[.int .u64 u, .nilIface]) ∧ Below w.heap.size w w' := by
 go_enter Tryz.func107, Tryz.ntmps107
 go_wp2_with (go_at_call 129; refine h.mono ?_; rintro e W1 ⟨rfl, hW⟩)
 go_ret2
 exact ⟨rfl, hW⟩
set_option maxHeartbeats 1000000 in
set_option maxRecDepth 100000 in
theorem pu_err (t : ByteArray) (ht : t.size ≤ 1000000000000) (u k : Int) (hk : k = 1 ∨ k = 2) (w : World) (hE : LexE w) (h : Calls Tryz.prog 129 #[.string t, .int .i64 16, .int .i64 64] w fun e w' => e = .returned (.tuple #[.int .u64 u, .iface 138 (.int .i64 k)]) ∧ Below w.heap.size w w') :
  Calls Tryz.prog 107 #[.string t, .int .i64 16, .int .i64 64] w fun e w' => ∃ v, e = .returned (.tuple #[.int .u64 u, v]) ∧ Below w.heap.size w w' := by
 have HE := Aside0.mk hE
 clear hE
 rcases hk with rfl | rfl
 ·
  go_enter Tryz.func107, Tryz.ntmps107
  go_wp2_with (go_at_call 129; refine h.mono ?_; rintro e W1 ⟨rfl, hW⟩)
  obtain ⟨ev, hv, hev⟩ := (HE.out.below hW).2
  go_wp2_with (go_at_call 84; refine (Tryz.strconv_toError_range ⟨#[80, 97, 114, 115, 101, 85, 105, 110, 116]⟩ t 16 64 ev _ (by omega) hv hev).mono ?_)
  rintro e W2 ⟨N, rfl, h1, h2, h3⟩
  go_wp2
  go_ret2
  exact ⟨_, rfl, below_step hW h3⟩
 ·
  go_enter Tryz.func107, Tryz.ntmps107
  go_wp2_with (go_at_call 129; refine h.mono ?_; rintro e W1 ⟨rfl, hW⟩)
  obtain ⟨ev, hv, hev⟩ := (HE.out.below hW).1
  go_wp2_with (go_at_call 84; refine (Tryz.strconv_toError_syntax ⟨#[80, 97, 114, 115, 101, 85, 105, 110, 116]⟩ t 16 64 ev _ (by omega) hv hev).mono ?_)
  rintro e W2 ⟨N, rfl, h1, h2, h3⟩
  go_wp2
  go_ret2
  exact ⟨_, rfl, below_step hW h3⟩
theorem pu16 (t : ByteArray) (ht : t.size ≤ 1000000000000) (hall : ∀ c ∈ t.data.toList, hexC c = true) (w : World) (hE : LexE w) :
  Calls Tryz.prog 107 #[.string t, .int .i64 16, .int .i64 64] w fun e w' => ∃ u v, e = .returned (.tuple #[.int .u64 u, v]) ∧ (t.size ≠ 0 → t.size ≤ 16 → u = (hexNat t.data.toList : Nat) ∧ v = .nilIface) ∧ Below w.heap.size w w' := by
 by_cases h0 : t.size = 0
 ·
  obtain rfl : t = ⟨#[]⟩ := by
   apply ByteArray.ext
   exact Array.eq_empty_of_size_eq_zero h0
  refine (pu_err _ ht 0 2 (.inr rfl) w hE ((Tryz.internal_strconv_ParseUint_empty 16 64 w).mono ?_)).mono ?_
  ·
   rintro e w' ⟨rfl, rfl⟩
   exact ⟨rfl, Below.refl _ _⟩
  ·
   rintro e w' ⟨v, rfl, hb⟩
   exact ⟨_, _, rfl, fun h => absurd h0 h, hb⟩
 ·
  have hb := Lib.bytesWorld_below w 5 t
  by_cases hx : hexNat t.data.toList < 18446744073709551616
  ·
   refine (pu_ok t (hexNat t.data.toList : Nat) w ((pu16_inner t h0 ht hall w).mono ?_)).mono ?_
   ·
    rintro e w' ⟨h, rfl⟩
    rcases h with ⟨_, rfl⟩ | ⟨h, _⟩
    ·
     exact ⟨rfl, hb⟩
    ·
     omega
   ·
    rintro e w' ⟨rfl, hb⟩
    exact ⟨_, _, rfl, fun _ _ => ⟨rfl, rfl⟩, hb⟩
  ·
   refine (pu_err t ht 18446744073709551615 1 (.inl rfl) w hE ((pu16_inner t h0 ht hall w).mono ?_)).mono ?_
   ·
    rintro e w' ⟨h, rfl⟩
    rcases h with ⟨h, _⟩ | ⟨_, rfl⟩
    ·
     omega
    ·
     exact ⟨rfl, hb⟩
   ·
    rintro e w' ⟨v, rfl, hb⟩
    refine ⟨_, _, rfl, fun _ h16 => ?_, hb⟩
    have h1 := hexNat_lt t.data.toList hall
    have h2 : t.data.toList.length ≤ 16 := by rw [Array.length_toList]; exact h16
    have h3 := Nat.lt_of_lt_of_le h1 (Nat.le_trans (Nat.pow_le_pow_right (by decide) h2) (show 16 ^ 16 ≤ 18446744073709551616 by decide))
    exact absurd h3 hx
end Go.Proofs.YtbfndlfemhidaaaGreatDoor.LexW
/- lex: what its functions do, walked step by step. -/
namespace Go.Proofs.YtbfndlfemhidaaaGreatDoor.LexW
open Go.RowKit Go.Proofs.YtbfndlfemhidaaaGreatDoor.LexP Go.Proofs.YtbfndlfemhidaaaGreatDoorW.PrintWords Go.Proofs.YtbfndlfemhidaaaGreatDoorW.PrintLast Go.Proofs.YtbfndlfemhidaaaGreatDoorW.PrintMore Go.Proofs.YtbfndlfemhidaaaGreatDoor.Lex
set_option linter.unusedVariables false
set_option linter.unusedSimpArgs false
theorem below_drawn {w w' : World} (h : Drawn0 w w') : Below w.heap.size w w' := by
 obtain ⟨n, rfl⟩ := h
 exact pw_below_drewN (Below.refl _ _) n
theorem start_calls (c : UInt8) (w : World) : Calls Tryz.prog 75 #[.int .u8 (c.toNat : Int)] w fun e w' => e = .returned (.bool (startC c)) ∧ Below w.heap.size w w' :=
 (lex_start.calls _ _ w (start_f c)).mono fun _ _ ⟨h, hb⟩ => ⟨h, below_drawn hb⟩
theorem mark_calls (c : UInt8) (w : World) : Calls Tryz.prog 55 #[.int .u8 (c.toNat : Int)] w fun e w' => e = .returned (.bool (markC c)) ∧ Below w.heap.size w w' :=
 (lex_mark.calls _ _ w (mark_f c)).mono fun _ _ ⟨h, hb⟩ => ⟨h, below_drawn hb⟩
theorem many_inside_calls (s : ByteArray) (hs : s.size ≤ 1000000000000) (w : World) : Calls Tryz.prog 76 #[.string s, .func (.func 77) #[] #[]] w fun e w' => e = .returned (.int .i64 ((many insideC s.data.toList : Nat) : Int)) ∧ Below w.heap.size w w' :=
 (lex_many_by_lex_inside.calls (s.size + 1) s _ w (many_inside_f s (by omega) _ (by omega))).mono fun _ _ ⟨h, hb⟩ => ⟨h, below_drawn hb⟩
theorem many_digit_calls (s : ByteArray) (hs : s.size ≤ 1000000000000) (w : World) : Calls Tryz.prog 76 #[.string s, .func (.func 88) #[] #[]] w fun e w' => e = .returned (.int .i64 ((many digitC s.data.toList : Nat) : Int)) ∧ Below w.heap.size w w' :=
 (lex_many_by_lex_digit.calls (s.size + 1) s _ w (many_digit_f s (by omega) _ (by omega))).mono fun _ _ ⟨h, hb⟩ => ⟨h, below_drawn hb⟩
theorem many_hex_calls (s : ByteArray) (hs : s.size ≤ 1000000000000) (w : World) : Calls Tryz.prog 76 #[.string s, .func (.func 106) #[] #[]] w fun e w' => e = .returned (.int .i64 ((many hexC s.data.toList : Nat) : Int)) ∧ Below w.heap.size w w' :=
 (lex_many_by_lex_number_1.calls (s.size + 1) s _ w (many_hex_f s (by omega) _ (by omega))).mono fun _ _ ⟨h, hb⟩ => ⟨h, below_drawn hb⟩
theorem name_calls (s : ByteArray) (hs : s.size ≤ 1000000000000) (w : World) : Calls Tryz.prog 53 #[.string s] w fun e w' => e = .returned (.bool (nameL s.data.toList)) ∧ Below w.heap.size w w' :=
 (lex_name.calls (s.size + 1) s _ w (name_f s (by omega) _ (by omega))).mono fun _ _ ⟨h, hb⟩ => ⟨h, below_drawn hb⟩
theorem local_calls (s : ByteArray) (hs : s.size ≤ 1000000000000) (w : World) : Calls Tryz.prog 54 #[.string s] w fun e w' => e = .returned (.bool (localL s.data.toList)) ∧ Below w.heap.size w w' :=
 (lex_local.calls (s.size + 1) s _ w (local_f s (by omega) _ (by omega))).mono fun _ _ ⟨h, hb⟩ => ⟨h, below_drawn hb⟩
theorem atoi_dec : ∀ (l : List UInt8) (a : Nat), (∀ c ∈ l, digitC c = true) → Lib.decFrom a l = some (l.foldl (fun a c => a * 10 + (c.toNat - 48)) a)
 | [], a, _ => rfl
 | c :: t, a, h => by
  have hc := dig_hex c (h c (by simp))
  have hd : Lib.digitVal c = some (c.toNat - 48) := by
   have := Go.Proofs.YtbfndlfemhidaaaGreatDoor.Lex.bytes (p := fun c => !digitC c || Lib.digitVal c == some (c.toNat - 48)) (by decide +kernel) c
   simpa [h c (by simp)] using this
  have := atoi_dec t (a * 10 + (c.toNat - 48)) (fun x hx => h x (by simp [hx]))
  simp only [Lib.decFrom, hd, List.foldl_cons]
  exact this
theorem atoi_take (s : ByteArray) (n : Nat) (hn : n ≤ s.size) (hm : n = many digitC s.data.toList) (h0 : n ≠ 0) : Lib.atoi (s.extract 0 n).data.toList = some ((decNat (s.data.toList.take n) : Nat) : Int) := by
 rw [extract_list, List.drop_zero]
 have hall := many_take (p := digitC) s.data.toList
 rw [← hm] at hall
 have hl : (s.data.toList.take n).length = n := by rw [List.length_take, size_data]; omega
 generalize s.data.toList.take n = l at hall hl
 cases l with
 | nil => simp at hl; omega
 | cons c t =>
  have hc := hall c (by simp)
  have h45 := Go.Proofs.YtbfndlfemhidaaaGreatDoor.Lex.bytes (p := fun c => !digitC c || (c != 45 && c != 43)) (by decide +kernel) c
  simp [hc] at h45
  have hd := atoi_dec (c :: t) 0 hall
  simp only [Lib.atoi]
  rw [if_neg (by simp [h45.1]), if_neg (by simp [h45.2]), Lib.decNat, if_neg (by simp), hd]
  rfl
set_option maxHeartbeats 1000000 in
set_option maxRecDepth 100000 in
theorem number_calls (s : ByteArray) (hs : s.size ≤ 1000000000) (w : World) (hE : LexE w) : Calls Tryz.prog 78 #[.string s] w fun e w' =>
  e = .returned (.tuple #[.int .i64 (numL s.data.toList).1, .int .i64 ((numL s.data.toList).2 : Nat)]) ∧ Below w.heap.size w w' := by
 have HE := Aside0.mk hE
 clear hE
 have hsd := size_data s
 have hpre : (s.extract 0 2).toList = s.data.toList.take 2 := by rw [ByteArray.toList_eq, extract_list]; simp
 by_cases hx : 2 < s.data.toList.length ∧ s.data.toList.take 2 = [48, 120]
 ·
  have d2 : decide ((2 : Int) < (s.size : Int)) = true := decide_eq_true (by omega)
  have d3 : ((s.extract 0 2).toList == [48, 120]) = true := by rw [hpre, hx.2]; rfl
  have d4 : (2 : Int) ≤ (s.size : Int) := by omega
  have hrest : (s.extract 2 s.size).data.toList = s.data.toList.drop 2 := by rw [extract_list, List.take_of_length_le (by omega)]
  have hrsz : (s.extract 2 s.size).size = s.size - 2 := by rw [← size_data, hrest, List.length_drop]; omega
  obtain ⟨n, hn⟩ : ∃ n, n = many hexC (s.data.toList.drop 2) := ⟨_, rfl⟩
  have cM := fun w => many_hex_calls (s.extract 2 s.size) (by omega) w
  rw [hrest] at cM
  have hnle := many_le (p := hexC) (s.data.toList.drop 2)
  rw [List.length_drop] at hnle
  have hN : ((n = 0 ∨ 16 < n) → numL s.data.toList = (0, 0)) ∧ (¬ (n = 0 ∨ 16 < n) → numL s.data.toList = (toI64 (hexNat ((s.data.toList.drop 2).take n)), n + 2)) := by
   unfold numL
   rw [if_pos hx, ← hn]
   exact ⟨fun h => if_pos h, fun h => if_neg h⟩
  have hall := many_take (p := hexC) (s.data.toList.drop 2)
  rw [← hn] at cM hnle hall
  have ht : (s.extract 2 (2 + n)).data.toList = (s.data.toList.drop 2).take n := by rw [extract_list, List.drop_take]; congr 1; omega
  have htz : (s.extract 2 (2 + n)).size = n := by rw [← size_data, ht, List.length_take, List.length_drop]; omega
  have cP := fun w hE => pu16 (s.extract 2 (2 + n)) (by omega) (by rw [ht]; exact hall) w hE
  rw [htz, ht] at cP
  have HN := Aside0.mk hN
  clear hN hn hx hpre hrest hrsz ht htz
  have nle : (2 : Int) + (n : Int) ≤ (s.size : Int) := by omega
  have hsl : ∀ W : World, (Instr.slice 9 (.string s) (some (.int .i64 2)) (some (.int .i64 (2 + (n : Int)))) none).run Tryz.prog W = .ok (.string (s.extract 2 (2 + n))) W := fun W => by
   rw [run_slice_string W 9 s .i64 .i64 2 (2 + (n : Int)) Tryz.underlying9 (by omega) (by omega) (by omega)]
   rw [show (2 + (n : Int)).toNat = 2 + n by omega]
   rfl
  by_cases hn0 : n = 0
  ·
   have e0 : ((n : Int) == 0) = true := beq_iff_eq.2 (by omega)
   have HN0 := Aside0.mk hn0
   clear hn0 hnle
   go_enter Tryz.func78, Tryz.ntmps78
   go_wp2_with (first
    | (go_at_call 76; refine (cM _).mono ?_; rintro e w' ⟨rfl, hb⟩; have HB := Aside0.mk hb; clear hb)
    | (go_at_call 107; refine (cP _ (HE.out.below HB.out)).mono ?_; rintro e w2 ⟨u, v, rfl, _, hb⟩; have HB2 := Aside0.mk (below_step HB.out hb); clear hb))
   go_ret2
   exact ⟨by rw [HN.out.1 (.inl HN0.out)]; rfl, HB2.out⟩
  have e0 : ((n : Int) == 0) = false := beq_eq_false_iff_ne.2 (by omega)
  by_cases hn16 : 16 < n
  ·
   have e1 : decide ((16 : Int) < (n : Int)) = true := decide_eq_true (by omega)
   have HN0 := Aside0.mk hn16
   clear hn0 hnle hn16
   go_enter Tryz.func78, Tryz.ntmps78
   go_wp2_with (first
    | (go_at_call 76; refine (cM _).mono ?_; rintro e w' ⟨rfl, hb⟩; have HB := Aside0.mk hb; clear hb)
    | (go_at_call 107; refine (cP _ (HE.out.below HB.out)).mono ?_; rintro e w2 ⟨u, v, rfl, _, hb⟩; have HB2 := Aside0.mk (below_step HB.out hb); clear hb))
   go_ret2
   exact ⟨by rw [HN.out.1 (.inr HN0.out)]; rfl, HB2.out⟩
  have e1 : decide ((16 : Int) < (n : Int)) = false := decide_eq_false (by omega)
  have hres := HN.out.2 (by omega)
  have HC := Aside0.mk (show n ≠ 0 ∧ n ≤ 16 by omega)
  have hlt := hexNat_lt _ hall
  have hll : ((s.data.toList.drop 2).take n).length ≤ 16 := by rw [List.length_take]; omega
  have hlt2 := Nat.lt_of_lt_of_le hlt (Nat.le_trans (Nat.pow_le_pow_right (by decide) hll) (show 16 ^ 16 ≤ 18446744073709551616 by decide))
  clear hlt hll
  obtain ⟨x, hx⟩ : ∃ x, x = hexNat ((s.data.toList.drop 2).take n) := ⟨_, rfl⟩
  rw [← hx] at cP hres hlt2
  have HX := Aside0.mk hlt2
  have HR := Aside0.mk hres
  clear hres hn0 hlt2 hx
  have hcv : IntKind.i64.wrap (x : Int) = toI64 x := by
   rw [i64_w]
   have := HX.out
   unfold wrap64 toI64
   by_cases hx : x < 9223372036854775808
   ·
    rw [if_pos hx]; omega
   ·
    rw [if_neg hx]; omega
  go_enter Tryz.func78, Tryz.ntmps78
  go_wp2_with (first
   | (go_at_call 76; refine (cM _).mono ?_; rintro e w' ⟨rfl, hb⟩; have HB := Aside0.mk hb; clear hb)
   | (go_at_call 107; refine (cP _ (HE.out.below HB.out)).mono ?_; rintro e w2 ⟨u, v, rfl, huv, hb⟩; obtain ⟨rfl, rfl⟩ := huv HC.out.1 HC.out.2; have HB2 := Aside0.mk (below_step HB.out hb); clear hb))
  go_ret2
  exact ⟨by rw [HR.out]; rfl, HB2.out⟩
 ·
  obtain ⟨n, hn⟩ : ∃ n, n = many digitC s.data.toList := ⟨_, rfl⟩
  have cM := fun w => many_digit_calls s (by omega) w
  have hN : ((n = 0 ∨ 18 < n) → numL s.data.toList = (0, 0)) ∧ (¬ (n = 0 ∨ 18 < n) → numL s.data.toList = (((decNat (s.data.toList.take n) : Nat) : Int), n)) := by
   unfold numL
   rw [if_neg hx, ← hn]
   exact ⟨fun h => if_pos h, fun h => if_neg h⟩
  have hnle := many_le (p := digitC) s.data.toList
  rw [← hn] at cM hnle
  have HM := Aside0.mk hn.symm
  have HN := Aside0.mk hN
  have hsplit : (decide ((2 : Int) < (s.size : Int)) = false) ∨ (decide ((2 : Int) < (s.size : Int)) = true ∧ ((s.extract 0 2).toList == [48, 120]) = false ∧ (2 : Int) ≤ (s.size : Int)) := by
   by_cases h2 : 2 < s.size
   ·
    exact .inr ⟨decide_eq_true (by omega), by rw [hpre]; exact beq_eq_false_iff_ne.2 (fun h => hx ⟨by omega, h⟩), by omega⟩
   ·
    exact .inl (decide_eq_false (by omega))
  clear hN hn hx hpre
  go_enter Tryz.func78, Tryz.ntmps78
  rcases hsplit with d2 | ⟨d2, d3, d4⟩
  ·
   by_cases hn0 : n = 0
   ·
    have e0 : ((n : Int) == 0) = true := beq_iff_eq.2 (by omega)
    have HN0 := Aside0.mk hn0
    clear hn0 hnle
    go_wp2_with (go_at_call 76; refine (cM _).mono ?_; rintro e w' ⟨rfl, hb⟩; have HB := Aside0.mk hb; clear hb)
    go_ret2
    exact ⟨by rw [HN.out.1 (.inl HN0.out)]; rfl, HB.out⟩
   have e0 : ((n : Int) == 0) = false := beq_eq_false_iff_ne.2 (by omega)
   by_cases hn18 : 18 < n
   ·
    have e1 : decide ((18 : Int) < (n : Int)) = true := decide_eq_true (by omega)
    have HN0 := Aside0.mk hn18
    clear hn0 hnle hn18
    go_wp2_with (go_at_call 76; refine (cM _).mono ?_; rintro e w' ⟨rfl, hb⟩; have HB := Aside0.mk hb; clear hb)
    go_ret2
    exact ⟨by rw [HN.out.1 (.inr HN0.out)]; rfl, HB.out⟩
   have e1 : decide ((18 : Int) < (n : Int)) = false := decide_eq_false (by omega)
   have hres := HN.out.2 (by omega)
   have hat := atoi_take s n (by omega) HM.out.symm (by omega)
   have hsz : (s.extract 0 n).size ≤ 18 := by rw [← size_data, extract_list, List.drop_zero, List.length_take]; omega
   have cA := fun w => Tryz.strconv_Atoi (s.extract 0 n) _ hsz hat w
   obtain ⟨v, hv⟩ : ∃ v : Int, v = ((decNat (s.data.toList.take n) : Nat) : Int) := ⟨_, rfl⟩
   rw [← hv] at cA
   have HV := Aside0.mk hv
   have HR := Aside0.mk hres
   clear hat hsz hres hv hn0
   have nle : (n : Int) ≤ (s.size : Int) := by omega
   go_wp2_with (first
    | (go_at_call 76; refine (cM _).mono ?_; rintro e w' ⟨rfl, hb⟩; have HB := Aside0.mk hb; clear hb)
    | (go_at_call 48; refine (cA _).mono ?_; rintro e w2 ⟨rfl, t2, rfl⟩; have HB2 := Aside0.mk (below_step HB.out (Lib.bytesWorld_below _ 5 t2))))
   go_ret2
   exact ⟨by rw [HR.out, HV.out]; rfl, HB2.out⟩
  ·
   by_cases hn0 : n = 0
   ·
    have e0 : ((n : Int) == 0) = true := beq_iff_eq.2 (by omega)
    have HN0 := Aside0.mk hn0
    clear hn0 hnle
    go_wp2_with (go_at_call 76; refine (cM _).mono ?_; rintro e w' ⟨rfl, hb⟩; have HB := Aside0.mk hb; clear hb)
    go_ret2
    exact ⟨by rw [HN.out.1 (.inl HN0.out)]; rfl, HB.out⟩
   have e0 : ((n : Int) == 0) = false := beq_eq_false_iff_ne.2 (by omega)
   by_cases hn18 : 18 < n
   ·
    have e1 : decide ((18 : Int) < (n : Int)) = true := decide_eq_true (by omega)
    have HN0 := Aside0.mk hn18
    clear hn0 hnle hn18
    go_wp2_with (go_at_call 76; refine (cM _).mono ?_; rintro e w' ⟨rfl, hb⟩; have HB := Aside0.mk hb; clear hb)
    go_ret2
    exact ⟨by rw [HN.out.1 (.inr HN0.out)]; rfl, HB.out⟩
   have e1 : decide ((18 : Int) < (n : Int)) = false := decide_eq_false (by omega)
   have hres := HN.out.2 (by omega)
   have hat := atoi_take s n (by omega) HM.out.symm (by omega)
   have hsz : (s.extract 0 n).size ≤ 18 := by rw [← size_data, extract_list, List.drop_zero, List.length_take]; omega
   have cA := fun w => Tryz.strconv_Atoi (s.extract 0 n) _ hsz hat w
   obtain ⟨v, hv⟩ : ∃ v : Int, v = ((decNat (s.data.toList.take n) : Nat) : Int) := ⟨_, rfl⟩
   rw [← hv] at cA
   have HV := Aside0.mk hv
   have HR := Aside0.mk hres
   clear hat hsz hres hv hn0
   have nle : (n : Int) ≤ (s.size : Int) := by omega
   go_wp2_with (first
    | (go_at_call 76; refine (cM _).mono ?_; rintro e w' ⟨rfl, hb⟩; have HB := Aside0.mk hb; clear hb)
    | (go_at_call 48; refine (cA _).mono ?_; rintro e w2 ⟨rfl, t2, rfl⟩; have HB2 := Aside0.mk (below_step HB.out (Lib.bytesWorld_below _ 5 t2))))
   go_ret2
   exact ⟨by rw [HR.out, HV.out]; rfl, HB2.out⟩
end Go.Proofs.YtbfndlfemhidaaaGreatDoor.LexW
/- lex: what its functions do, walked step by step. -/
namespace Go.Proofs.YtbfndlfemhidaaaGreatDoor.LexW
open Go.RowKit Go.Proofs.YtbfndlfemhidaaaGreatDoor.LexP Go.Proofs.YtbfndlfemhidaaaGreatDoorW.PrintWords Go.Proofs.YtbfndlfemhidaaaGreatDoorW.PrintLast Go.Proofs.YtbfndlfemhidaaaGreatDoorW.PrintMore Go.Proofs.YtbfndlfemhidaaaGreatDoor.Lex
set_option linter.unusedVariables false
set_option linter.unusedSimpArgs false
theorem qah0 {P : Prop} (h : P := by first | (go_simp; done) | (go_simp; rfl)) : P := h
theorem slice_to (s : ByteArray) (h : Int) (h0 : 0 ≤ h) (h1 : h ≤ (s.size : Int)) {W : World} : (Instr.slice 9 (.string s) none (some (.int .i64 h)) none).run Tryz.prog W = .ok (.string (s.extract 0 h.toNat)) W := by
 go_simp
theorem box3 {w : World} {g : Nat} {a b c : Value} (h : w.heap[g]? = some (.cells #[a, b, c] 61 (0, 0))) : w.cell? ⟨g, 0, none⟩ = some a ∧ w.cell? ⟨g, 1, none⟩ = some b ∧ w.cell? ⟨g, 2, none⟩ = some c ∧ w.frozen? ⟨g, 0, none⟩ = false ∧ w.frozen? ⟨g, 1, none⟩ = false ∧ w.frozen? ⟨g, 2, none⟩ = false :=
 ⟨blk_cell h 0, blk_cell h 1, blk_cell h 2, blk_frozen h 0, blk_frozen h 1, blk_frozen h 2⟩
theorem size23 : (Tryz.prog.info? 61).map (·.size) = some 3 := by kernel_rfl
def tokV (x : Tok) : Value := .agg #[.int .u8 (x.k : Int), .string ⟨x.t.toArray⟩, .int .i64 x.n]
theorem ret_tok {x : Tok × Nat} {k : Int} {t : ByteArray} {n m : Int} (hk : (x.1.k : Int) = k) (ht : (⟨x.1.t.toArray⟩ : ByteArray) = t) (hn : x.1.n = n) (hm : (x.2 : Int) = m) :
  Ending.returned (.tuple #[.agg #[.int .u8 k, .string t, .int .i64 n], .int .i64 m]) = Ending.returned (.tuple #[tokV x.1, .int .i64 (x.2 : Int)]) := by
 subst hk ht hn hm
 rfl
theorem mk_data (s : ByteArray) : (⟨s.data.toList.toArray⟩ : ByteArray) = s := by cases s; rfl
theorem mk_of {s : ByteArray} {l : List UInt8} (h : s.data.toList = l) : (⟨l.toArray⟩ : ByteArray) = s := by rw [← h, mk_data]
set_option maxHeartbeats 4000000 in
set_option maxRecDepth 100000 in
theorem next_calls (s : ByteArray) (hs : s.size ≤ 1000000000) (h0 : 0 < s.size) (w : World) (hE : LexE w) : Calls Tryz.prog 43 #[.string s] w fun e w' =>
  e = .returned (.tuple #[tokV (nextL s.data.toList).1, .int .i64 ((nextL s.data.toList).2 : Nat)]) ∧ Below w.heap.size w w' := by
 have HE := Aside0.mk hE
 clear hE
 have hsd := size_data s
 have p0 : (0 : Int) < (s.size : Int) := by omega
 have p1 : (1 : Int) ≤ (s.size : Int) := by omega
 obtain ⟨r, hr⟩ : ∃ r, r = s.data.toList.drop 1 := ⟨_, rfl⟩
 have hl : s.data.toList = s[0] :: r := by rw [hr, ← drop_at s 0 h0]; rfl
 have hrs : (s.extract 1 s.size).data.toList = r := by rw [extract_list, List.take_of_length_le (by omega), hr]
 have hrz : (s.extract 1 s.size).size = s.size - 1 := by rw [← size_data, hrs, hr, List.length_drop]; omega
 have hs1 : (s.extract 0 1).data.toList = [s[0]] := by rw [extract_list, hl]; rfl
 have hrl : r.length = s.size - 1 := by rw [hr, List.length_drop]; omega
 rw [hl]
 have cM := fun w => mark_calls s[0] w
 have cS := fun w => start_calls s[0] w
 generalize hc : s[0] = c at *
 have hu23 := Tryz.underlying61
 by_cases h1 : markC c = true
 ·
  rw [h1] at cM
  have hN : nextL (c :: r) = (⟨4, [c], 0⟩, 1) := by unfold nextL; exact if_pos h1
  have HN := Aside0.mk hN
  have HS1 := Aside0.mk hs1
  clear hN h1 cS hl hrs hrz hs1 hrl hr
  go_enter Tryz.func43, Tryz.ntmps43
  go_wp2_with (first | ((with_reducible refine gate_dst (N := 2) rfl ?_); refine box_event ?hg (N := 2) ?hd (cs := #[.int .u8 0, .string (⟨#[]⟩ : ByteArray), .int .i64 0]) (t := 61) ?hr ?_; (case hd => rfl); (case hg => rfl); (case hr => exact qah0); intro g hg w2 hbox hb; have HB : Aside0 (Below w.heap.size w w2) := ⟨hb⟩; have BK := Aside0.mk hbox; have GE : Aside0 (w.heap.size ≤ g) := ⟨by rw [hg]; exact Nat.le_refl _⟩; replace HE := Aside0.mk (HE.out.below hb); obtain ⟨c0_, c1_, c2_, f0_, f1_, f2_⟩ := box3 BK.out; clear hb hbox hg) | (go_at_call 55; refine (cM _).mono ?_; rintro e w_ ⟨rfl, hb⟩; replace HB := Aside0.mk (below_step HB.out hb); replace BK := Aside0.mk (blk_below BK.out hb); replace HE := Aside0.mk (HE.out.below hb); clear c0_ c1_ c2_ f0_ f1_ f2_; obtain ⟨c0_, c1_, c2_, f0_, f1_, f2_⟩ := box3 BK.out; clear hb))
  exact bodyPost_ret (results_ct rfl _ _ g 61 #[.int .u8 4, .string (s.extract 0 1), .int .i64 0] (0, 0) _ rfl (blk_put (cs' := #[.int .u8 4, .string (s.extract 0 1), .int .i64 0]) (blk_put (cs' := #[.int .u8 4, .string (s.extract 0 1), .int .i64 0]) (blk_put (cs' := #[.int .u8 4, .string (⟨#[]⟩ : ByteArray), .int .i64 0]) BK.out 0 _ rfl) 1 _ rfl) 2 _ rfl) Tryz.underlying61 rfl size23) rfl ⟨by rw [HN.out]; exact ret_tok (x := (⟨4, [c], 0⟩, 1)) rfl (mk_of HS1.out) rfl rfl, below_set (below_set (below_set HB.out GE.out) GE.out) GE.out⟩
 have h1 : markC c = false := by simpa using h1
 rw [h1] at cM
 by_cases h2 : c = 34
 ·
  have t34 := u8_is h2 (n := 34) rfl
  have cQ := fun w => quoted_calls (s.extract 1 s.size) (by omega) w
  rw [hrs] at cQ
  have hN : nextL (c :: r) = if (quotedL r 0 []).2 = 0 then noTok else (⟨3, (quotedL r 0 []).1, 0⟩, (quotedL r 0 []).2 + 1) := by unfold nextL; exact (if_neg (by simp [h1])).trans (if_pos h2)
  have hqb := quoted_bound r 0 []
  have hn1 : (quotedL r 0 []).2 ≤ s.size := by
   by_cases hq : (quotedL r 0 []).2 = 0
   ·
    omega
   ·
    have := (hqb hq).2.1; omega
  clear hqb
  generalize quotedL r 0 [] = q at cQ hN hn1
  obtain ⟨qt, qn⟩ := q
  simp only at cQ hN hn1
  clear h1 cS hl hrs hrz hs1 hrl hr
  by_cases hq : qn = 0
  ·
   have e0 : ((qn : Int) == 0) = true := beq_iff_eq.2 (by omega)
   rw [if_pos hq] at hN
   have HN := Aside0.mk hN
   clear hN hq h2
   go_enter Tryz.func43, Tryz.ntmps43
   go_wp2_with (first | ((with_reducible refine gate_dst (N := 2) rfl ?_); refine box_event ?hg (N := 2) ?hd (cs := #[.int .u8 0, .string (⟨#[]⟩ : ByteArray), .int .i64 0]) (t := 61) ?hr ?_; (case hd => rfl); (case hg => rfl); (case hr => exact qah0); intro g hg w2 hbox hb; have HB : Aside0 (Below w.heap.size w w2) := ⟨hb⟩; have BK := Aside0.mk hbox; have GE : Aside0 (w.heap.size ≤ g) := ⟨by rw [hg]; exact Nat.le_refl _⟩; replace HE := Aside0.mk (HE.out.below hb); obtain ⟨c0_, c1_, c2_, f0_, f1_, f2_⟩ := box3 BK.out; clear hb hbox hg) | (go_at_call 55; refine (cM _).mono ?_; rintro e w_ ⟨rfl, hb⟩; replace HB := Aside0.mk (below_step HB.out hb); replace BK := Aside0.mk (blk_below BK.out hb); replace HE := Aside0.mk (HE.out.below hb); clear c0_ c1_ c2_ f0_ f1_ f2_; obtain ⟨c0_, c1_, c2_, f0_, f1_, f2_⟩ := box3 BK.out; clear hb) | (go_at_call 74; refine (cQ _).mono ?_; rintro e w_ ⟨rfl, hb⟩; replace HB := Aside0.mk (below_step HB.out hb); replace BK := Aside0.mk (blk_below BK.out hb); replace HE := Aside0.mk (HE.out.below hb); clear c0_ c1_ c2_ f0_ f1_ f2_; obtain ⟨c0_, c1_, c2_, f0_, f1_, f2_⟩ := box3 BK.out; clear hb))
   exact bodyPost_ret (results_ct rfl _ _ g 61 #[.int .u8 0, .string (⟨#[]⟩ : ByteArray), .int .i64 0] (0, 0) _ rfl (blk_put (cs' := #[.int .u8 0, .string (⟨#[]⟩ : ByteArray), .int .i64 0]) (blk_put (cs' := #[.int .u8 0, .string (⟨#[]⟩ : ByteArray), .int .i64 0]) (blk_put (cs' := #[.int .u8 0, .string (⟨#[]⟩ : ByteArray), .int .i64 0]) BK.out 0 _ rfl) 1 _ rfl) 2 _ rfl) Tryz.underlying61 rfl size23) rfl ⟨by rw [HN.out]; rfl, below_set (below_set (below_set HB.out GE.out) GE.out) GE.out⟩
  ·
   have e0 : ((qn : Int) == 0) = false := beq_eq_false_iff_ne.2 (by omega)
   rw [if_neg hq] at hN
   have HN := Aside0.mk hN
   clear hN hq h2
   go_enter Tryz.func43, Tryz.ntmps43
   go_wp2_with (first | ((with_reducible refine gate_dst (N := 2) rfl ?_); refine box_event ?hg (N := 2) ?hd (cs := #[.int .u8 0, .string (⟨#[]⟩ : ByteArray), .int .i64 0]) (t := 61) ?hr ?_; (case hd => rfl); (case hg => rfl); (case hr => exact qah0); intro g hg w2 hbox hb; have HB : Aside0 (Below w.heap.size w w2) := ⟨hb⟩; have BK := Aside0.mk hbox; have GE : Aside0 (w.heap.size ≤ g) := ⟨by rw [hg]; exact Nat.le_refl _⟩; replace HE := Aside0.mk (HE.out.below hb); obtain ⟨c0_, c1_, c2_, f0_, f1_, f2_⟩ := box3 BK.out; clear hb hbox hg) | (go_at_call 55; refine (cM _).mono ?_; rintro e w_ ⟨rfl, hb⟩; replace HB := Aside0.mk (below_step HB.out hb); replace BK := Aside0.mk (blk_below BK.out hb); replace HE := Aside0.mk (HE.out.below hb); clear c0_ c1_ c2_ f0_ f1_ f2_; obtain ⟨c0_, c1_, c2_, f0_, f1_, f2_⟩ := box3 BK.out; clear hb) | (go_at_call 74; refine (cQ _).mono ?_; rintro e w_ ⟨rfl, hb⟩; replace HB := Aside0.mk (below_step HB.out hb); replace BK := Aside0.mk (blk_below BK.out hb); replace HE := Aside0.mk (HE.out.below hb); clear c0_ c1_ c2_ f0_ f1_ f2_; obtain ⟨c0_, c1_, c2_, f0_, f1_, f2_⟩ := box3 BK.out; clear hb))
   exact bodyPost_ret (results_ct rfl _ _ g 61 #[.int .u8 3, .string (⟨qt.toArray⟩ : ByteArray), .int .i64 0] (0, 0) _ rfl (blk_put (cs' := #[.int .u8 3, .string (⟨qt.toArray⟩ : ByteArray), .int .i64 0]) (blk_put (cs' := #[.int .u8 3, .string (⟨qt.toArray⟩ : ByteArray), .int .i64 0]) (blk_put (cs' := #[.int .u8 3, .string (⟨#[]⟩ : ByteArray), .int .i64 0]) BK.out 0 _ rfl) 1 _ rfl) 2 _ rfl) Tryz.underlying61 rfl size23) rfl ⟨by rw [HN.out]; rfl, below_set (below_set (below_set HB.out GE.out) GE.out) GE.out⟩
 have t34 := u8_not h2 (n := 34) rfl
 by_cases h3 : startC c = true
 ·
  rw [h3] at cS
  have cK := fun w => many_inside_calls (s.extract 1 s.size) (by omega) w
  rw [hrs] at cK
  have hN : nextL (c :: r) = if nameL ((c :: r).take (1 + many insideC r)) then (⟨1, (c :: r).take (1 + many insideC r), 0⟩, 1 + many insideC r) else noTok := by unfold nextL; exact (if_neg (by simp [h1])).trans ((if_neg h2).trans (if_pos h3))
  have hnle := many_le (p := insideC) r
  generalize many insideC r = n at cK hN hnle
  have hx : (s.extract 0 (1 + n)).data.toList = (c :: r).take (1 + n) := by rw [extract_list, hl]; rfl
  have hxz : (s.extract 0 (1 + n)).size ≤ 1000000000000 := by rw [← size_data, hx, List.length_take]; simp; omega
  have cN := fun w => name_calls (s.extract 0 (1 + n)) hxz w
  rw [hx] at cN
  have hsl : ∀ W : World, (Instr.slice 9 (.string s) none (some (.int .i64 (1 + (n : Int)))) none).run Tryz.prog W = .ok (.string (s.extract 0 (1 + n))) W := fun W => by
   rw [slice_to s (1 + (n : Int)) (by omega) (by omega)]
   rw [show (1 + (n : Int)).toNat = 1 + n by omega]
  have nle : (1 : Int) + (n : Int) ≤ (s.size : Int) := by omega
  have HX := Aside0.mk hx
  clear hx hxz hl hrs hrz hs1 hrl hr h1 h2 h3
  by_cases h4 : nameL ((c :: r).take (1 + n)) = true
  ·
   rw [h4] at cN
   rw [if_pos h4] at hN
   have HN := Aside0.mk hN
   clear hN h4
   go_enter Tryz.func43, Tryz.ntmps43
   go_wp2_with (first | ((with_reducible refine gate_dst (N := 2) rfl ?_); refine box_event ?hg (N := 2) ?hd (cs := #[.int .u8 0, .string (⟨#[]⟩ : ByteArray), .int .i64 0]) (t := 61) ?hr ?_; (case hd => rfl); (case hg => rfl); (case hr => exact qah0); intro g hg w2 hbox hb; have HB : Aside0 (Below w.heap.size w w2) := ⟨hb⟩; have BK := Aside0.mk hbox; have GE : Aside0 (w.heap.size ≤ g) := ⟨by rw [hg]; exact Nat.le_refl _⟩; replace HE := Aside0.mk (HE.out.below hb); obtain ⟨c0_, c1_, c2_, f0_, f1_, f2_⟩ := box3 BK.out; clear hb hbox hg) | (go_at_call 55; refine (cM _).mono ?_; rintro e w_ ⟨rfl, hb⟩; replace HB := Aside0.mk (below_step HB.out hb); replace BK := Aside0.mk (blk_below BK.out hb); replace HE := Aside0.mk (HE.out.below hb); clear c0_ c1_ c2_ f0_ f1_ f2_; obtain ⟨c0_, c1_, c2_, f0_, f1_, f2_⟩ := box3 BK.out; clear hb) | (go_at_call 75; refine (cS _).mono ?_; rintro e w_ ⟨rfl, hb⟩; replace HB := Aside0.mk (below_step HB.out hb); replace BK := Aside0.mk (blk_below BK.out hb); replace HE := Aside0.mk (HE.out.below hb); clear c0_ c1_ c2_ f0_ f1_ f2_; obtain ⟨c0_, c1_, c2_, f0_, f1_, f2_⟩ := box3 BK.out; clear hb) | (go_at_call 76; refine (cK _).mono ?_; rintro e w_ ⟨rfl, hb⟩; replace HB := Aside0.mk (below_step HB.out hb); replace BK := Aside0.mk (blk_below BK.out hb); replace HE := Aside0.mk (HE.out.below hb); clear c0_ c1_ c2_ f0_ f1_ f2_; obtain ⟨c0_, c1_, c2_, f0_, f1_, f2_⟩ := box3 BK.out; clear hb) | (go_at_call 53; refine (cN _).mono ?_; rintro e w_ ⟨rfl, hb⟩; replace HB := Aside0.mk (below_step HB.out hb); replace BK := Aside0.mk (blk_below BK.out hb); replace HE := Aside0.mk (HE.out.below hb); clear c0_ c1_ c2_ f0_ f1_ f2_; obtain ⟨c0_, c1_, c2_, f0_, f1_, f2_⟩ := box3 BK.out; clear hb))
   exact bodyPost_ret (results_ct rfl _ _ g 61 #[.int .u8 1, .string (s.extract 0 (1 + n)), .int .i64 0] (0, 0) _ rfl (blk_put (cs' := #[.int .u8 1, .string (s.extract 0 (1 + n)), .int .i64 0]) (blk_put (cs' := #[.int .u8 1, .string (s.extract 0 (1 + n)), .int .i64 0]) (blk_put (cs' := #[.int .u8 1, .string (⟨#[]⟩ : ByteArray), .int .i64 0]) BK.out 0 _ rfl) 1 _ rfl) 2 _ rfl) Tryz.underlying61 rfl size23) rfl ⟨by rw [HN.out]; exact ret_tok rfl (mk_of HX.out) rfl (by omega), below_set (below_set (below_set HB.out GE.out) GE.out) GE.out⟩
  ·
   have h4 : nameL ((c :: r).take (1 + n)) = false := by simpa using h4
   rw [h4] at cN
   rw [h4, if_neg (by decide)] at hN
   have HN := Aside0.mk hN
   clear hN h4
   go_enter Tryz.func43, Tryz.ntmps43
   go_wp2_with (first | ((with_reducible refine gate_dst (N := 2) rfl ?_); refine box_event ?hg (N := 2) ?hd (cs := #[.int .u8 0, .string (⟨#[]⟩ : ByteArray), .int .i64 0]) (t := 61) ?hr ?_; (case hd => rfl); (case hg => rfl); (case hr => exact qah0); intro g hg w2 hbox hb; have HB : Aside0 (Below w.heap.size w w2) := ⟨hb⟩; have BK := Aside0.mk hbox; have GE : Aside0 (w.heap.size ≤ g) := ⟨by rw [hg]; exact Nat.le_refl _⟩; replace HE := Aside0.mk (HE.out.below hb); obtain ⟨c0_, c1_, c2_, f0_, f1_, f2_⟩ := box3 BK.out; clear hb hbox hg) | (go_at_call 55; refine (cM _).mono ?_; rintro e w_ ⟨rfl, hb⟩; replace HB := Aside0.mk (below_step HB.out hb); replace BK := Aside0.mk (blk_below BK.out hb); replace HE := Aside0.mk (HE.out.below hb); clear c0_ c1_ c2_ f0_ f1_ f2_; obtain ⟨c0_, c1_, c2_, f0_, f1_, f2_⟩ := box3 BK.out; clear hb) | (go_at_call 75; refine (cS _).mono ?_; rintro e w_ ⟨rfl, hb⟩; replace HB := Aside0.mk (below_step HB.out hb); replace BK := Aside0.mk (blk_below BK.out hb); replace HE := Aside0.mk (HE.out.below hb); clear c0_ c1_ c2_ f0_ f1_ f2_; obtain ⟨c0_, c1_, c2_, f0_, f1_, f2_⟩ := box3 BK.out; clear hb) | (go_at_call 76; refine (cK _).mono ?_; rintro e w_ ⟨rfl, hb⟩; replace HB := Aside0.mk (below_step HB.out hb); replace BK := Aside0.mk (blk_below BK.out hb); replace HE := Aside0.mk (HE.out.below hb); clear c0_ c1_ c2_ f0_ f1_ f2_; obtain ⟨c0_, c1_, c2_, f0_, f1_, f2_⟩ := box3 BK.out; clear hb) | (go_at_call 53; refine (cN _).mono ?_; rintro e w_ ⟨rfl, hb⟩; replace HB := Aside0.mk (below_step HB.out hb); replace BK := Aside0.mk (blk_below BK.out hb); replace HE := Aside0.mk (HE.out.below hb); clear c0_ c1_ c2_ f0_ f1_ f2_; obtain ⟨c0_, c1_, c2_, f0_, f1_, f2_⟩ := box3 BK.out; clear hb))
   exact bodyPost_ret (results_ct rfl _ _ g 61 #[.int .u8 0, .string (⟨#[]⟩ : ByteArray), .int .i64 0] (0, 0) _ rfl (blk_put (cs' := #[.int .u8 0, .string (⟨#[]⟩ : ByteArray), .int .i64 0]) (blk_put (cs' := #[.int .u8 0, .string (⟨#[]⟩ : ByteArray), .int .i64 0]) (blk_put (cs' := #[.int .u8 0, .string (⟨#[]⟩ : ByteArray), .int .i64 0]) BK.out 0 _ rfl) 1 _ rfl) 2 _ rfl) Tryz.underlying61 rfl size23) rfl ⟨by rw [HN.out]; rfl, below_set (below_set (below_set HB.out GE.out) GE.out) GE.out⟩
 have h3 : startC c = false := by simpa using h3
 rw [h3] at cS
 have cK := fun w => many_inside_calls s (by omega) w
 rw [hl] at cK
 have hN : nextL (c :: r) = if localL ((c :: r).take (many insideC (c :: r))) then (⟨1, (c :: r).take (many insideC (c :: r)), 0⟩, many insideC (c :: r)) else if (numL (c :: r)).2 = 0 ∨ (numL (c :: r)).2 ≠ many insideC (c :: r) then noTok else (⟨2, [], (numL (c :: r)).1⟩, many insideC (c :: r)) := by unfold nextL; exact (if_neg (by simp [h1])).trans ((if_neg h2).trans (if_neg (by simp [h3])))
 have hnle := many_le (p := insideC) (c :: r)
 simp only [List.length_cons] at hnle
 generalize many insideC (c :: r) = n at cK hN hnle
 have hx : (s.extract 0 n).data.toList = (c :: r).take n := by rw [extract_list, hl]; rfl
 have hxz : (s.extract 0 n).size ≤ 1000000000000 := by rw [← size_data, hx, List.length_take]; simp; omega
 have cL := fun w => local_calls (s.extract 0 n) hxz w
 rw [hx] at cL
 have hsl : ∀ W : World, (Instr.slice 9 (.string s) none (some (.int .i64 (n : Int))) none).run Tryz.prog W = .ok (.string (s.extract 0 n)) W := fun W => by
  rw [slice_to s (n : Int) (by omega) (by omega)]
  rfl
 have nle : (n : Int) ≤ (s.size : Int) := by omega
 have cU := fun w hE => number_calls s hs w hE
 have hub := num_le (c :: r)
 rw [hl] at cU
 simp only [List.length_cons] at hub
 generalize numL (c :: r) = u at cU hN hub
 obtain ⟨uv, un⟩ := u
 simp only at cU hN hub
 have HX := Aside0.mk hx
 clear hx hxz hl hrs hrz hs1 hrl hr h1 h2 h3
 by_cases h4 : localL ((c :: r).take n) = true
 ·
  rw [h4] at cL
  rw [if_pos h4] at hN
  have HN := Aside0.mk hN
  clear hN h4
  go_enter Tryz.func43, Tryz.ntmps43
  go_wp2_with (first | ((with_reducible refine gate_dst (N := 2) rfl ?_); refine box_event ?hg (N := 2) ?hd (cs := #[.int .u8 0, .string (⟨#[]⟩ : ByteArray), .int .i64 0]) (t := 61) ?hr ?_; (case hd => rfl); (case hg => rfl); (case hr => exact qah0); intro g hg w2 hbox hb; have HB : Aside0 (Below w.heap.size w w2) := ⟨hb⟩; have BK := Aside0.mk hbox; have GE : Aside0 (w.heap.size ≤ g) := ⟨by rw [hg]; exact Nat.le_refl _⟩; replace HE := Aside0.mk (HE.out.below hb); obtain ⟨c0_, c1_, c2_, f0_, f1_, f2_⟩ := box3 BK.out; clear hb hbox hg) | (go_at_call 55; refine (cM _).mono ?_; rintro e w_ ⟨rfl, hb⟩; replace HB := Aside0.mk (below_step HB.out hb); replace BK := Aside0.mk (blk_below BK.out hb); replace HE := Aside0.mk (HE.out.below hb); clear c0_ c1_ c2_ f0_ f1_ f2_; obtain ⟨c0_, c1_, c2_, f0_, f1_, f2_⟩ := box3 BK.out; clear hb) | (go_at_call 75; refine (cS _).mono ?_; rintro e w_ ⟨rfl, hb⟩; replace HB := Aside0.mk (below_step HB.out hb); replace BK := Aside0.mk (blk_below BK.out hb); replace HE := Aside0.mk (HE.out.below hb); clear c0_ c1_ c2_ f0_ f1_ f2_; obtain ⟨c0_, c1_, c2_, f0_, f1_, f2_⟩ := box3 BK.out; clear hb) | (go_at_call 76; refine (cK _).mono ?_; rintro e w_ ⟨rfl, hb⟩; replace HB := Aside0.mk (below_step HB.out hb); replace BK := Aside0.mk (blk_below BK.out hb); replace HE := Aside0.mk (HE.out.below hb); clear c0_ c1_ c2_ f0_ f1_ f2_; obtain ⟨c0_, c1_, c2_, f0_, f1_, f2_⟩ := box3 BK.out; clear hb) | (go_at_call 54; refine (cL _).mono ?_; rintro e w_ ⟨rfl, hb⟩; replace HB := Aside0.mk (below_step HB.out hb); replace BK := Aside0.mk (blk_below BK.out hb); replace HE := Aside0.mk (HE.out.below hb); clear c0_ c1_ c2_ f0_ f1_ f2_; obtain ⟨c0_, c1_, c2_, f0_, f1_, f2_⟩ := box3 BK.out; clear hb))
  exact bodyPost_ret (results_ct rfl _ _ g 61 #[.int .u8 1, .string (s.extract 0 n), .int .i64 0] (0, 0) _ rfl (blk_put (cs' := #[.int .u8 1, .string (s.extract 0 n), .int .i64 0]) (blk_put (cs' := #[.int .u8 1, .string (s.extract 0 n), .int .i64 0]) (blk_put (cs' := #[.int .u8 1, .string (⟨#[]⟩ : ByteArray), .int .i64 0]) BK.out 0 _ rfl) 1 _ rfl) 2 _ rfl) Tryz.underlying61 rfl size23) rfl ⟨by rw [HN.out]; exact ret_tok rfl (mk_of HX.out) rfl rfl, below_set (below_set (below_set HB.out GE.out) GE.out) GE.out⟩
 have h4 : localL ((c :: r).take n) = false := by simpa using h4
 rw [h4] at cL
 rw [h4, if_neg (by decide)] at hN
 clear h4
 by_cases h5 : un = 0
 ·
  have e0 : ((un : Int) == 0) = true := beq_iff_eq.2 (by omega)
  rw [if_pos (.inl h5)] at hN
  have HN := Aside0.mk hN
  clear hN h5
  go_enter Tryz.func43, Tryz.ntmps43
  go_wp2_with (first | ((with_reducible refine gate_dst (N := 2) rfl ?_); refine box_event ?hg (N := 2) ?hd (cs := #[.int .u8 0, .string (⟨#[]⟩ : ByteArray), .int .i64 0]) (t := 61) ?hr ?_; (case hd => rfl); (case hg => rfl); (case hr => exact qah0); intro g hg w2 hbox hb; have HB : Aside0 (Below w.heap.size w w2) := ⟨hb⟩; have BK := Aside0.mk hbox; have GE : Aside0 (w.heap.size ≤ g) := ⟨by rw [hg]; exact Nat.le_refl _⟩; replace HE := Aside0.mk (HE.out.below hb); obtain ⟨c0_, c1_, c2_, f0_, f1_, f2_⟩ := box3 BK.out; clear hb hbox hg) | (go_at_call 55; refine (cM _).mono ?_; rintro e w_ ⟨rfl, hb⟩; replace HB := Aside0.mk (below_step HB.out hb); replace BK := Aside0.mk (blk_below BK.out hb); replace HE := Aside0.mk (HE.out.below hb); clear c0_ c1_ c2_ f0_ f1_ f2_; obtain ⟨c0_, c1_, c2_, f0_, f1_, f2_⟩ := box3 BK.out; clear hb) | (go_at_call 75; refine (cS _).mono ?_; rintro e w_ ⟨rfl, hb⟩; replace HB := Aside0.mk (below_step HB.out hb); replace BK := Aside0.mk (blk_below BK.out hb); replace HE := Aside0.mk (HE.out.below hb); clear c0_ c1_ c2_ f0_ f1_ f2_; obtain ⟨c0_, c1_, c2_, f0_, f1_, f2_⟩ := box3 BK.out; clear hb) | (go_at_call 76; refine (cK _).mono ?_; rintro e w_ ⟨rfl, hb⟩; replace HB := Aside0.mk (below_step HB.out hb); replace BK := Aside0.mk (blk_below BK.out hb); replace HE := Aside0.mk (HE.out.below hb); clear c0_ c1_ c2_ f0_ f1_ f2_; obtain ⟨c0_, c1_, c2_, f0_, f1_, f2_⟩ := box3 BK.out; clear hb) | (go_at_call 54; refine (cL _).mono ?_; rintro e w_ ⟨rfl, hb⟩; replace HB := Aside0.mk (below_step HB.out hb); replace BK := Aside0.mk (blk_below BK.out hb); replace HE := Aside0.mk (HE.out.below hb); clear c0_ c1_ c2_ f0_ f1_ f2_; obtain ⟨c0_, c1_, c2_, f0_, f1_, f2_⟩ := box3 BK.out; clear hb) | (go_at_call 78; refine (cU _ HE.out).mono ?_; rintro e w_ ⟨rfl, hb⟩; replace HB := Aside0.mk (below_step HB.out hb); replace BK := Aside0.mk (blk_below BK.out hb); replace HE := Aside0.mk (HE.out.below hb); clear c0_ c1_ c2_ f0_ f1_ f2_; obtain ⟨c0_, c1_, c2_, f0_, f1_, f2_⟩ := box3 BK.out; clear hb))
  exact bodyPost_ret (results_ct rfl _ _ g 61 #[.int .u8 0, .string (⟨#[]⟩ : ByteArray), .int .i64 0] (0, 0) _ rfl (blk_put (cs' := #[.int .u8 0, .string (⟨#[]⟩ : ByteArray), .int .i64 0]) (blk_put (cs' := #[.int .u8 0, .string (⟨#[]⟩ : ByteArray), .int .i64 0]) (blk_put (cs' := #[.int .u8 0, .string (⟨#[]⟩ : ByteArray), .int .i64 0]) BK.out 0 _ rfl) 1 _ rfl) 2 _ rfl) Tryz.underlying61 rfl size23) rfl ⟨by rw [HN.out]; rfl, below_set (below_set (below_set HB.out GE.out) GE.out) GE.out⟩
 have e0 : ((un : Int) == 0) = false := beq_eq_false_iff_ne.2 (by omega)
 by_cases h6 : un = n
 ·
  have e1 : ((un : Int) != (n : Int)) = false := by rw [h6]; exact bne_self_eq_false _
  rw [if_neg (by omega)] at hN
  have HN := Aside0.mk hN
  clear hN h5 h6
  go_enter Tryz.func43, Tryz.ntmps43
  go_wp2_with (first | ((with_reducible refine gate_dst (N := 2) rfl ?_); refine box_event ?hg (N := 2) ?hd (cs := #[.int .u8 0, .string (⟨#[]⟩ : ByteArray), .int .i64 0]) (t := 61) ?hr ?_; (case hd => rfl); (case hg => rfl); (case hr => exact qah0); intro g hg w2 hbox hb; have HB : Aside0 (Below w.heap.size w w2) := ⟨hb⟩; have BK := Aside0.mk hbox; have GE : Aside0 (w.heap.size ≤ g) := ⟨by rw [hg]; exact Nat.le_refl _⟩; replace HE := Aside0.mk (HE.out.below hb); obtain ⟨c0_, c1_, c2_, f0_, f1_, f2_⟩ := box3 BK.out; clear hb hbox hg) | (go_at_call 55; refine (cM _).mono ?_; rintro e w_ ⟨rfl, hb⟩; replace HB := Aside0.mk (below_step HB.out hb); replace BK := Aside0.mk (blk_below BK.out hb); replace HE := Aside0.mk (HE.out.below hb); clear c0_ c1_ c2_ f0_ f1_ f2_; obtain ⟨c0_, c1_, c2_, f0_, f1_, f2_⟩ := box3 BK.out; clear hb) | (go_at_call 75; refine (cS _).mono ?_; rintro e w_ ⟨rfl, hb⟩; replace HB := Aside0.mk (below_step HB.out hb); replace BK := Aside0.mk (blk_below BK.out hb); replace HE := Aside0.mk (HE.out.below hb); clear c0_ c1_ c2_ f0_ f1_ f2_; obtain ⟨c0_, c1_, c2_, f0_, f1_, f2_⟩ := box3 BK.out; clear hb) | (go_at_call 76; refine (cK _).mono ?_; rintro e w_ ⟨rfl, hb⟩; replace HB := Aside0.mk (below_step HB.out hb); replace BK := Aside0.mk (blk_below BK.out hb); replace HE := Aside0.mk (HE.out.below hb); clear c0_ c1_ c2_ f0_ f1_ f2_; obtain ⟨c0_, c1_, c2_, f0_, f1_, f2_⟩ := box3 BK.out; clear hb) | (go_at_call 54; refine (cL _).mono ?_; rintro e w_ ⟨rfl, hb⟩; replace HB := Aside0.mk (below_step HB.out hb); replace BK := Aside0.mk (blk_below BK.out hb); replace HE := Aside0.mk (HE.out.below hb); clear c0_ c1_ c2_ f0_ f1_ f2_; obtain ⟨c0_, c1_, c2_, f0_, f1_, f2_⟩ := box3 BK.out; clear hb) | (go_at_call 78; refine (cU _ HE.out).mono ?_; rintro e w_ ⟨rfl, hb⟩; replace HB := Aside0.mk (below_step HB.out hb); replace BK := Aside0.mk (blk_below BK.out hb); replace HE := Aside0.mk (HE.out.below hb); clear c0_ c1_ c2_ f0_ f1_ f2_; obtain ⟨c0_, c1_, c2_, f0_, f1_, f2_⟩ := box3 BK.out; clear hb))
  exact bodyPost_ret (results_ct rfl _ _ g 61 #[.int .u8 2, .string (⟨#[]⟩ : ByteArray), .int .i64 uv] (0, 0) _ rfl (blk_put (cs' := #[.int .u8 2, .string (⟨#[]⟩ : ByteArray), .int .i64 uv]) (blk_put (cs' := #[.int .u8 2, .string (⟨#[]⟩ : ByteArray), .int .i64 0]) (blk_put (cs' := #[.int .u8 2, .string (⟨#[]⟩ : ByteArray), .int .i64 0]) BK.out 0 _ rfl) 1 _ rfl) 2 _ rfl) Tryz.underlying61 rfl size23) rfl ⟨by rw [HN.out]; rfl, below_set (below_set (below_set HB.out GE.out) GE.out) GE.out⟩
 ·
  have e1 : ((un : Int) != (n : Int)) = true := bne_iff_ne.2 (by omega)
  rw [if_pos (.inr h6)] at hN
  have HN := Aside0.mk hN
  clear hN h5 h6
  go_enter Tryz.func43, Tryz.ntmps43
  go_wp2_with (first | ((with_reducible refine gate_dst (N := 2) rfl ?_); refine box_event ?hg (N := 2) ?hd (cs := #[.int .u8 0, .string (⟨#[]⟩ : ByteArray), .int .i64 0]) (t := 61) ?hr ?_; (case hd => rfl); (case hg => rfl); (case hr => exact qah0); intro g hg w2 hbox hb; have HB : Aside0 (Below w.heap.size w w2) := ⟨hb⟩; have BK := Aside0.mk hbox; have GE : Aside0 (w.heap.size ≤ g) := ⟨by rw [hg]; exact Nat.le_refl _⟩; replace HE := Aside0.mk (HE.out.below hb); obtain ⟨c0_, c1_, c2_, f0_, f1_, f2_⟩ := box3 BK.out; clear hb hbox hg) | (go_at_call 55; refine (cM _).mono ?_; rintro e w_ ⟨rfl, hb⟩; replace HB := Aside0.mk (below_step HB.out hb); replace BK := Aside0.mk (blk_below BK.out hb); replace HE := Aside0.mk (HE.out.below hb); clear c0_ c1_ c2_ f0_ f1_ f2_; obtain ⟨c0_, c1_, c2_, f0_, f1_, f2_⟩ := box3 BK.out; clear hb) | (go_at_call 75; refine (cS _).mono ?_; rintro e w_ ⟨rfl, hb⟩; replace HB := Aside0.mk (below_step HB.out hb); replace BK := Aside0.mk (blk_below BK.out hb); replace HE := Aside0.mk (HE.out.below hb); clear c0_ c1_ c2_ f0_ f1_ f2_; obtain ⟨c0_, c1_, c2_, f0_, f1_, f2_⟩ := box3 BK.out; clear hb) | (go_at_call 76; refine (cK _).mono ?_; rintro e w_ ⟨rfl, hb⟩; replace HB := Aside0.mk (below_step HB.out hb); replace BK := Aside0.mk (blk_below BK.out hb); replace HE := Aside0.mk (HE.out.below hb); clear c0_ c1_ c2_ f0_ f1_ f2_; obtain ⟨c0_, c1_, c2_, f0_, f1_, f2_⟩ := box3 BK.out; clear hb) | (go_at_call 54; refine (cL _).mono ?_; rintro e w_ ⟨rfl, hb⟩; replace HB := Aside0.mk (below_step HB.out hb); replace BK := Aside0.mk (blk_below BK.out hb); replace HE := Aside0.mk (HE.out.below hb); clear c0_ c1_ c2_ f0_ f1_ f2_; obtain ⟨c0_, c1_, c2_, f0_, f1_, f2_⟩ := box3 BK.out; clear hb) | (go_at_call 78; refine (cU _ HE.out).mono ?_; rintro e w_ ⟨rfl, hb⟩; replace HB := Aside0.mk (below_step HB.out hb); replace BK := Aside0.mk (blk_below BK.out hb); replace HE := Aside0.mk (HE.out.below hb); clear c0_ c1_ c2_ f0_ f1_ f2_; obtain ⟨c0_, c1_, c2_, f0_, f1_, f2_⟩ := box3 BK.out; clear hb))
  exact bodyPost_ret (results_ct rfl _ _ g 61 #[.int .u8 0, .string (⟨#[]⟩ : ByteArray), .int .i64 0] (0, 0) _ rfl (blk_put (cs' := #[.int .u8 0, .string (⟨#[]⟩ : ByteArray), .int .i64 0]) (blk_put (cs' := #[.int .u8 0, .string (⟨#[]⟩ : ByteArray), .int .i64 0]) (blk_put (cs' := #[.int .u8 0, .string (⟨#[]⟩ : ByteArray), .int .i64 0]) BK.out 0 _ rfl) 1 _ rfl) 2 _ rfl) Tryz.underlying61 rfl size23) rfl ⟨by rw [HN.out]; rfl, below_set (below_set (below_set HB.out GE.out) GE.out) GE.out⟩
end Go.Proofs.YtbfndlfemhidaaaGreatDoor.LexW
/- strconv.FormatUint at base 16, walked step by step. -/
namespace Go.Proofs.YtbfndlfemhidaaaGreatDoor.LexW
open Go.RowKit Go.Proofs.YtbfndlfemhidaaaGreatDoor.LexP Go.Proofs.YtbfndlfemhidaaaGreatDoorW.PrintWords Go.Proofs.YtbfndlfemhidaaaGreatDoorW.PrintLast Go.Proofs.YtbfndlfemhidaaaGreatDoorW.PrintMore Go.Proofs.YtbfndlfemhidaaaGreatDoor.Lex
set_option linter.unusedVariables false
set_option linter.unusedSimpArgs false
set_option maxHeartbeats 1000000 in
theorem tz16 (w : World) (h : w.cell? ⟨7, 15, none⟩ = some (.int .u8 4)) : Calls Tryz.prog 143 #[.int .u64 16] w fun e w' => e = .returned (.int .i64 4) ∧ w' = w := by
 have key : IntKind.u64.wrap (Go.bits .and .u64 16 (IntKind.u64.wrap (-16)) * 285870213051353865) / 288230376151711744 = 15 := by decide +kernel
 go_enter Tryz.func143, Tryz.ntmps143
 go_wp2
 go_ret
 exact ⟨rfl, rfl⟩
set_option maxHeartbeats 1000000 in
theorem tz16u (w : World) (h : w.cell? ⟨7, 15, none⟩ = some (.int .u8 4)) : Calls Tryz.prog 139 #[.int .u64 16] w fun e w' => e = .returned (.int .i64 4) ∧ w' = w := by
 have H := Aside0.mk h
 clear h
 go_enter Tryz.func139, Tryz.ntmps139
 go_wp2_with (go_at_call 143; refine (tz16 _ H.out).mono ?_; rintro e w' ⟨rfl, rfl⟩)
 go_ret
 exact ⟨rfl, rfl⟩
set_option maxHeartbeats 1000000 in
theorem pow2 (w : World) : Calls Tryz.prog 138 #[.int .i64 16] w fun e w' => e = .returned (.bool true) ∧ w' = w := by
 go_enter Tryz.func138, Tryz.ntmps138
 have key : Go.bits .and .i64 16 15 = 0 := by decide +kernel
 go_wp2
 go_ret
 exact ⟨rfl, rfl⟩
def hexL (n : Nat) : List UInt8 := if n < 16 then [hexDig n] else hexL (n / 16) ++ [hexDig (n % 16)]
def DIGS : ByteArray := ⟨#[48, 49, 50, 51, 52, 53, 54, 55, 56, 57, 97, 98, 99, 100, 101, 102, 103, 104, 105, 106, 107, 108, 109, 110, 111, 112, 113, 114, 115, 116, 117, 118, 119, 120, 121, 122]⟩
theorem dig_at (n : Nat) (hn : n < 16) (h : n < DIGS.size) : DIGS[n] = hexDig n := by
 have : ∀ n, n < 16 → DIGS.data.toList.getD n 0 = hexDig n := by decide +kernel
 rw [← this n hn]
 have hl : n < DIGS.data.toList.length := by rw [size_data]; exact h
 simp [List.getD, List.getElem?_eq_getElem hl]
 rfl
theorem dig_int (x : Int) (n : Nat) (hx : x = n) (hn : n < 16) (h : x.toNat < DIGS.size) : DIGS[x.toNat] = hexDig n := by
 subst hx
 exact dig_at n hn h
theorem len_small {y : Int} {a n : Nat} (h : y = a) (hy : 16 ≤ y) (hlt : a < 16 ^ (16 - n)) : n ≤ 14 := by
 rcases Nat.lt_or_ge 14 n with hn | hn
 ·
  have : 16 - n ≤ 1 := by omega
  have := Nat.lt_of_lt_of_le hlt (Nat.pow_le_pow_right (by decide : 1 ≤ 16) this)
  omega
 ·
  exact hn
theorem cells_step {cs : Array Value} {i z : Nat} {ds : List UInt8} {v : UInt8} (h : ∀ j (h : j < ds.length), cs[i + j]? = some (.int .u8 (ds[j].toNat : Int))) (hz : z + 1 = i) (hs : z < cs.size) :
  ∀ j (h : j < (v :: ds).length), (cs.setIfInBounds z (.int .u8 (v.toNat : Int)))[i - 1 + j]? = some (.int .u8 ((v :: ds)[j].toNat : Int)) := by
 intro j hj
 cases j with
 | zero =>
  rw [Array.getElem?_setIfInBounds, if_pos (by omega), if_pos hs]
  rfl
 | succ j =>
  rw [Array.getElem?_setIfInBounds, if_neg (by omega)]
  have := h j (by simpa using hj)
  rw [show i - 1 + (j + 1) = i + j by omega, this]
  rfl
set_option maxHeartbeats 2000000 in
set_option maxRecDepth 100000 in
theorem fb16 (u : Nat) (hu : u < 18446744073709551616) (w : World) (h : w.cell? ⟨7, 15, none⟩ = some (.int .u8 4)) : Calls Tryz.prog 123 #[.slice none 0 0, .int .u64 (u : Int), .int .i64 16, .bool false, .bool false] w fun e w' =>
  (∃ v, e = .returned (.tuple #[v, .string ⟨(hexL u).toArray⟩])) ∧ Below w.heap.size w w' := by
 have H := Aside0.mk h
 have HU := Aside0.mk hu
 obtain ⟨x, hx⟩ : ∃ x : Int, x = u := ⟨_, rfl⟩
 rw [← hx]
 have HX := Aside0.mk hx
 have x0 : 0 ≤ x := by omega
 have x1 : x < 18446744073709551616 := by omega
 clear h hu hx
 go_enter Tryz.func123, Tryz.ntmps123
 go_wp2_with (first
  | ((with_reducible refine gate_dst (N := 12) rfl ?_); refine box_event ?hg (N := 12) ?hd (cs := Tryz.zeroCells167) (t := 167) ?hr ?_; (case hd => rfl); (case hg => rfl); (case hr => first | (go_simp; done) | (go_simp; rfl)); intro g hg w1 hbox hb; have HB := Aside0.mk hb; have BK := Aside0.mk hbox; have GE : Aside0 (w.heap.size ≤ g) := ⟨by rw [hg]; exact Nat.le_refl _⟩; have H1 := Aside0.mk ((hb.cell (p := ⟨7, 15, none⟩) (World.block_lt_of_cell? w _ H.out)).trans H.out); clear hb hbox hg)
  | (go_at_call 138; refine (pow2 _).mono ?_; rintro e w' ⟨rfl, rfl⟩)
  | (go_at_call 139; refine (tz16u _ H1.out).mono ?_; rintro e w' ⟨rfl, rfl⟩))
 go_loopw [1, 13] (fun v1 v13 wx => ∃ (y z : Int) (a i : Nat) (ds : List UInt8) (cs : Array Value), v1 = .int .u64 y ∧ v13 = .int .i64 z ∧ 0 ≤ y ∧ y < 18446744073709551616 ∧ 50 ≤ z ∧ z ≤ 65 ∧ Aside0 (y = a ∧ z = i ∧ hexL u = hexL a ++ ds ∧ i + ds.length = 65 ∧ a < 16 ^ (16 - ds.length) ∧ ds.length ≤ 15) ∧ Aside0 (wx.heap[g]? = some (.cells cs 167 (0, 0)) ∧ cs.size = 65 ∧ ∀ j (h : j < ds.length), cs[i + j]? = some (.int .u8 (ds[j].toNat : Int))) ∧ Aside0 (Below w.heap.size w wx)) (fun v1 _ _ => (intOf v1).toNat)
 case atStart => exact ⟨x, 65, u, 65, [], _, rfl, rfl, x0, x1, by omega, by omega, ⟨HX.out, rfl, by simp, rfl, HU.out, by simp⟩, ⟨BK.out, by kernel_rfl, fun j h => by simp at h⟩, HB⟩
 case round =>
  clear HB BK H1 x0 x1
  obtain ⟨y, z, a, i, ds, cs, rfl, rfl, y0, y1, z0, z1, HK, HC, HB⟩ := hrel
  have e15 : Go.bits .and .u64 y 15 = y % 16 := by
   have := bits_mask .u64 64 (by decide) (fun n h0 h1 => by rw [IntKind.wrap_u64]; omega) 4 (by decide) y y0 (by omega)
   simpa using this
  by_cases h16 : 16 ≤ y
  ·
   have d1 : decide (16 ≤ y) = true := decide_eq_true h16
   have m0 : 0 ≤ y % 16 := by omega
   have m1 : y % 16 < 36 := by omega
   have HI : Aside0 (∀ h : (y % 16).toNat < DIGS.size, DIGS[(y % 16).toNat] = hexDig (a % 16)) := ⟨dig_int (y % 16) (a % 16) (by have := HK.out.1; omega) (Nat.mod_lt _ (by decide))⟩
   obtain ⟨v0, hv0⟩ : ∃ v0, cs[z.toNat - 1]? = some v0 := ⟨_, Array.getElem?_eq_getElem (by have := HC.out.2.1; omega)⟩
   have hcz : wr.cell? ⟨g, z.toNat - 1, none⟩ = some v0 := (blk_cell HC.out.1 _).trans hv0
   have hfz := blk_frozen HC.out.1 (z.toNat - 1)
   clear hv0
   have HY := Aside0.mk h16
   clear h16
   have hD := HI.out
   unfold DIGS at hD
   go_wp2
   refine ⟨⟨y / 16, z - 1, a / 16, i - 1, hexDig (a % 16) :: ds, _, rfl, rfl, by omega, by omega, ?_, by omega, ⟨by have := HK.out.1; omega, by have := HK.out.2.1; omega, ?_, ?_, ?_, ?_⟩, ⟨blk_set HC.out.1 _ _, ?_, ?_⟩, ⟨below_set HB.out GE.out⟩⟩, by have := HY.out; simp [intOf]; omega⟩
   ·
    have := HK.out.2.1; have := len_small HK.out.1 HY.out HK.out.2.2.2.2.1; have := HK.out.2.2.2.1; omega
   ·
    rw [HK.out.2.2.1, hexL, if_neg (by have := HK.out.1; have := HY.out; omega)]; simp
   ·
    have := HK.out.2.2.2.1; have := HK.out.2.1; simp; omega
   ·
    have h1 := len_small HK.out.1 HY.out HK.out.2.2.2.2.1
    have h2 := HK.out.2.2.2.2.1
    rw [List.length_cons]
    rw [show 16 - ds.length = (16 - (ds.length + 1)) + 1 by omega, Nat.pow_succ] at h2
    exact Nat.div_lt_of_lt_mul (by omega)
   ·
    have := len_small HK.out.1 HY.out HK.out.2.2.2.2.1; simp; omega
   ·
    rw [Array.size_setIfInBounds]; exact HC.out.2.1
   ·
    exact cells_step HC.out.2.2 (by have := HK.out.2.1; omega) (by have := HC.out.2.1; have := HK.out.2.1; omega)
  ·
   have d1 : decide (16 ≤ y) = false := decide_eq_false h16
   have m1 : y < 36 := by omega
   have HI : Aside0 (∀ h : y.toNat < DIGS.size, DIGS[y.toNat] = hexDig a) := ⟨dig_int y a HK.out.1 (by have := HK.out.1; omega)⟩
   obtain ⟨v0, hv0⟩ : ∃ v0, cs[z.toNat - 1]? = some v0 := ⟨_, Array.getElem?_eq_getElem (by have := HC.out.2.1; omega)⟩
   have hcz : wr.cell? ⟨g, z.toNat - 1, none⟩ = some v0 := (blk_cell HC.out.1 _).trans hv0
   have hfz := blk_frozen HC.out.1 (z.toNat - 1)
   clear hv0
   have hD := HI.out
   unfold DIGS at hD
   have HA := Aside0.mk (show a < 16 by have := HK.out.1; omega)
   have hsl : ∀ W : World, (Instr.sliceAt 167 (.pointer (some ⟨g, 0, none⟩)) (some (.int .i64 (z - 1))) none none).run Tryz.prog W = .ok (.slice (some ⟨g, i - 1, none⟩) (65 - (i - 1)) (65 - (i - 1))) W := fun W => by
    have ea : Tryz.prog.arrayLen 167 = 65 := by kernel_rfl
    have ht : Tryz.prog.underlying 167 = some (.array (Tryz.prog.arrayLen 167) (Tryz.prog.elem 167)) := by kernel_rfl
    have hsz : (sizeOf (Tryz.prog.elem 167)).run Tryz.prog W = .ok 1 W := by kernel_rfl
    rw [run_sliceAt_array_l W 167 ⟨g, 0, none⟩ ht .i64 (z - 1) (by omega) (by rw [ea]; omega), hsz, ea]
    have e1 : (z - 1).toNat = i - 1 := by have := HK.out.2.1; omega
    simp only [Result.andThen_ok, slicedAt, e1]
    rw [if_neg (by have := HK.out.2.1; omega)]
    simp [Addr.add]
    have := HK.out.2.1
    omega
   have hcs := cells_step (v := hexDig a) HC.out.2.2 (i := i) (z := z.toNat - 1) (by have := HK.out.2.1; omega) (by have := HC.out.2.1; have := HK.out.2.1; omega)
   have hcv := string_of_reads (P := Tryz.prog) (w := wr.setCell ⟨g, z.toNat - 1, none⟩ (.int .u8 ((hexDig a).toNat : Int))) (src := 91) (dst := 9) (e := 5) (A := some ⟨g, i - 1, none⟩) (n := 65 - (i - 1)) (c := 65 - (i - 1)) (xs := nm (hexDig a :: ds)) Tryz.underlying91 Tryz.underlying5 Tryz.underlying9
    ⟨by rw [nm_length, List.length_cons]; have := HK.out.2.2.2.1; have := HK.out.2.1; omega, by omega, fun _ => ⟨_, rfl, fun j hj => by
     have hj' : j < (hexDig a :: ds).length := by rw [List.length_cons]; have := HK.out.2.2.2.1; have := HK.out.2.1; omega
     have hb := blk_cell (blk_set HC.out.1 (z.toNat - 1) (.int .u8 ((hexDig a).toNat : Int))) (i - 1 + j)
     have he : nm (hexDig a :: ds) = (hexDig a :: ds).map (fun c => (c.toNat : Int)) := rfl
     have hadd : (⟨g, i - 1, none⟩ : Addr).add j = ⟨g, i - 1 + j, none⟩ := by simp [Addr.add]
     rw [hadd, hb, hcs j hj', he]
     rw [List.getD, List.getElem?_map, List.getElem?_eq_getElem hj']
     rfl⟩⟩
   clear hcs
   go_wp2
   go_ret2
   refine ⟨⟨.slice none 0 0, ?_⟩, below_set HB.out GE.out⟩
   rw [str_nm, HK.out.2.2.1, hexL, if_pos HA.out]
   rfl
def LexD (w : World) : Prop := w.cell? ⟨7, 15, none⟩ = some (.int .u8 4)
theorem LexD.below {w w' : World} (h : LexD w) (hb : Below w.heap.size w w') : LexD w' := (hb.cell (p := ⟨7, 15, none⟩) (World.block_lt_of_cell? w _ h)).trans h
set_option maxHeartbeats 1000000 in
set_option maxRecDepth 100000 in
theorem fu16i (u : Nat) (hu : u < 18446744073709551616) (w : World) (h : LexD w) : Calls Tryz.prog 91 #[.int .u64 (u : Int), .int .i64 16] w fun e w' => e = .returned (.string ⟨(hexL u).toArray⟩) ∧ Below w.heap.size w w' := by
 have c := fb16 u hu w h
 obtain ⟨x, hx⟩ : ∃ x : Int, x = u := ⟨_, rfl⟩
 rw [← hx] at c ⊢
 have x0 : 0 ≤ x := by omega
 have x1 : x < 18446744073709551616 := by omega
 clear hx hu
 go_enter Tryz.func91, Tryz.ntmps91
 go_wp2_with (go_at_call 123; refine c.mono ?_; rintro e w' ⟨⟨v, rfl⟩, hb⟩; have HB := Aside0.mk hb; clear hb)
 go_ret
 exact ⟨rfl, HB.out⟩
set_option maxHeartbeats 1000000 in
set_option maxRecDepth 100000 in
theorem fu16 (u : Nat) (hu : u < 18446744073709551616) (w : World) (h : LexD w) : Calls Tryz.prog 57 #[.int .u64 (u : Int), .int .i64 16] w fun e w' => e = .returned (.string ⟨(hexL u).toArray⟩) ∧ Below w.heap.size w w' := by
 have c := fu16i u hu w h
 obtain ⟨x, hx⟩ : ∃ x : Int, x = u := ⟨_, rfl⟩
 rw [← hx] at c ⊢
 have x0 : 0 ≤ x := by omega
 have x1 : x < 18446744073709551616 := by omega
 clear hx hu
 go_enter Tryz.func57, Tryz.ntmps57
 go_wp2_with (go_at_call 91; refine c.mono ?_; rintro e w' ⟨rfl, hb⟩; have HB := Aside0.mk hb; clear hb)
 go_ret
 exact ⟨rfl, HB.out⟩
theorem hexL_pad : ∀ (k n : Nat), n < 16 ^ (k + 1) → hexPad (k + 1) n = List.replicate (k + 1 - (hexL n).length) 48 ++ hexL n ∧ (hexL n).length ≤ k + 1
 | 0, n, h => by
  rw [hexL, if_pos (by simpa using h)]
  simp [hexPad, Nat.mod_eq_of_lt (show n < 16 by simpa using h)]
 | k + 1, n, h => by
  rw [hexPad]
  by_cases h16 : n < 16
  ·
   have e := hexL_pad k 0 (Nat.pow_pos (by decide))
   rw [Nat.div_eq_of_lt h16, e.1, Nat.mod_eq_of_lt h16]
   rw [show hexL 0 = [48] by rw [hexL, if_pos (by decide)]; rfl, show hexL n = [hexDig n] by rw [hexL, if_pos h16]]
   refine ⟨?_, by simp⟩
   simp only [List.length_singleton]
   rw [show k + 1 - 1 = k by omega, show k + 1 + 1 - 1 = k + 1 by omega, List.replicate_succ']
  ·
   have e := hexL_pad k (n / 16) (by rw [Nat.div_lt_iff_lt_mul (by decide)]; rw [Nat.pow_succ] at h; exact h)
   rw [e.1, show hexL n = hexL (n / 16) ++ [hexDig (n % 16)] by rw [hexL, if_neg h16]]
   refine ⟨?_, by simp; exact e.2⟩
   simp only [List.length_append, List.length_singleton, List.append_assoc]
   rw [show k + 1 + 1 - ((hexL (n / 16)).length + 1) = k + 1 - (hexL (n / 16)).length by omega]
end Go.Proofs.YtbfndlfemhidaaaGreatDoor.LexW
