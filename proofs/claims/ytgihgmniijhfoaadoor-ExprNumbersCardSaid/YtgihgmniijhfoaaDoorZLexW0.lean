/- lex: what its functions do, walked step by step. -/
import Derived.Test.YtgihgmniijhfoaaDoorProg
import Derived.Test.YtgihgmniijhfoaaDoorZLexLaw
import Derived.WalkKit
import Derived.Maps.OwnSet
import Derived.Maps.OwnOps
import Derived.Maps.Views
import Derived.Maps.RangeWalk
import Derived.Lib.Hide
namespace Go.Proofs.YtgihgmniijhfoaaDoor.LexW
open Go.RowKit Go.WideMaps Go.Proofs.YtgihgmniijhfoaaDoor.Lex
set_option linter.unusedVariables false
set_option linter.unusedSimpArgs false
theorem byteLaw : Maps.Keyed Tryd.prog 5 := Maps.int_keyed Tryd.underlying5
theorem zeroB (w : World) : (zeroValue 5).run Tryd.prog w = .ok (.int .u8 0) w := by kernel_rfl
theorem wfB {n : Int} (h : 0 ≤ n) (h1 : n < 256) : (Lit.int .u8 n).wf = true := by
  simp [Lit.wf, IntKind.min, IntKind.max, IntKind.signed, IntKind.bits]
  omega
def bk (n : Int) : Lit := .int .u8 n
def bd (n : Int) : DataW Unit := .lit (.int .u8 n)
/-- What the map of the signs reads as. -/
def SIGD : DataW Unit := (((((DataW.map []).put (bk 110) (bd 10)).put (bk 116) (bd 9)).put (bk 48) (bd 0)).put (bk 34) (bd 34)).put (bk 92) (bd 92)
def IsSig (W : World) (b : Nat) : Prop := W.ownsMap Tryd.prog 5 (plainElem Tryd.prog 5) b 5 SIGD
theorem byteKey (n : Int) (h : 0 ≤ n) (h1 : n < 256) : keyOf Tryd.prog 5 (.int .u8 n) = some (bk n) := Maps.keyOf_int_mk Tryd.underlying5 (wfB (by omega) (by omega))
set_option maxHeartbeats 400000 in
set_option maxRecDepth 100000 in
theorem signs_calls (w : World) : Calls Tryd.prog 62 #[] w fun e w' => e = .returned (.map (some w.heap.size)) ∧ IsSig w' w.heap.size ∧ Below w.heap.size w w' := by
  have hmm := @run_makeMap Tryd.prog
  have h0 := World.ownsMap_made w Tryd.prog 5 (plainElem (H := Unit) Tryd.prog 5)
  have wf : ∀ n : Int, 0 ≤ n → n < 256 → plainElem (H := Unit) Tryd.prog 5 (.int .u8 n) = some (bd n, []) := fun n a b => plainElem_int Tryd.underlying5 (wfB (by omega) (by omega))
  obtain ⟨w1, r1, o1, g1⟩ := h0.update byteLaw Tryd.underlying88 (by decide) (byteKey 110 (by decide) (by decide)) (wf 10 (by decide) (by decide))
  obtain ⟨w2, r2, o2, g2⟩ := o1.update byteLaw Tryd.underlying88 (by decide) (byteKey 116 (by decide) (by decide)) (wf 9 (by decide) (by decide))
  obtain ⟨w3, r3, o3, g3⟩ := o2.update byteLaw Tryd.underlying88 (by decide) (byteKey 48 (by decide) (by decide)) (wf 0 (by decide) (by decide))
  obtain ⟨w4, r4, o4, g4⟩ := o3.update byteLaw Tryd.underlying88 (by decide) (byteKey 34 (by decide) (by decide)) (wf 34 (by decide) (by decide))
  obtain ⟨w5, r5, o5, g5⟩ := o4.update byteLaw Tryd.underlying88 (by decide) (byteKey 92 (by decide) (by decide)) (wf 92 (by decide) (by decide))
  have hB : Below w.heap.size w w5 := by
    have b0 : Below w.heap.size w (w.alloc (.map #[] 0)) := (Below.refl _ _).alloc (Nat.le_refl _) _
    have s : ∀ {a b : World}, Below w.heap.size w a → a.grownBy b (some w.heap.size) → Below w.heap.size w b := fun h g => h.grown g h.size (fun j hj => by cases hj; exact Nat.le_refl _)
    exact s (s (s (s (s b0 g1) g2) g3) g4) g5
  have O5 := Lib.hid o5
  have HB := Lib.hid hB
  clear o1 o2 o3 o4 o5 g1 g2 g3 g4 g5 h0 wf hB
  go_enter Tryd.func62, Tryd.ntmps62
  go_wp2
  go_ret
  exact ⟨rfl, O5.out, HB.out⟩
theorem bk_inj {m n : Int} (h : bk m = bk n) : m = n := by injection h
theorem sig_put {D : DataW Unit} {k d : Int} (x : Int) (z : DataW Unit) (hD : Maps.IsMap D) : (x = k → Maps.has (D.put (bk k) (bd d)) (bk x) = true ∧ (D.put (bk k) (bd d)).atKey (bk x) z = bd d) ∧
    (x ≠ k → Maps.has (D.put (bk k) (bd d)) (bk x) = Maps.has D (bk x) ∧ (D.put (bk k) (bd d)).atKey (bk x) z = D.atKey (bk x) z) :=
  ⟨fun e => by subst e; exact ⟨Maps.has_put_same hD (show WideAt.IsKeyLit (bk x) by unfold bk; trivial) _, Maps.atKey_put_same hD (show WideAt.IsKeyLit (bk x) by unfold bk; trivial) _ _⟩, fun e => ⟨Maps.has_put_other (fun h => e (bk_inj h)) _, Maps.atKey_put_other (fun h => e (bk_inj h)) _ _⟩⟩
theorem u8_ne {x : UInt8} {n : Nat} (hn : n < 256) (h : x ≠ UInt8.ofNat n) : ((x.toNat : Nat) : Int) ≠ (n : Int) := by
  intro e
  apply h
  have : x.toNat = n := by omega
  rw [← this, UInt8.ofNat_toNat]
theorem sig_at (x : UInt8) (z : DataW Unit) : (∀ y, escL x = some y → Maps.has SIGD (bk x.toNat) = true ∧ SIGD.atKey (bk x.toNat) z = bd y.toNat) ∧ (escL x = none → Maps.has SIGD (bk x.toNat) = false ∧ SIGD.atKey (bk x.toNat) z = z) := by
  have m0 : Maps.IsMap (DataW.map [] : DataW Unit) := Maps.isMap_empty
  have m1 := m0.put (bk 110) (bd 10)
  have m2 := m1.put (bk 116) (bd 9)
  have m3 := m2.put (bk 48) (bd 0)
  have m4 := m3.put (bk 34) (bd 34)
  have p1 := sig_put (k := 110) (d := 10) x.toNat z m0
  have p2 := sig_put (k := 116) (d := 9) x.toNat z m1
  have p3 := sig_put (k := 48) (d := 0) x.toNat z m2
  have p4 := sig_put (k := 34) (d := 34) x.toNat z m3
  have p5 := sig_put (k := 92) (d := 92) x.toNat z m4
  unfold SIGD escL
  by_cases h5 : x = 92
  · subst h5
    refine ⟨fun y hy => ?_, fun h => absurd h (by decide)⟩
    obtain rfl : (92 : UInt8) = y := Option.some.inj hy
    exact p5.1 rfl
  obtain ⟨a5, b5⟩ := p5.2 (u8_ne (n := 92) (by decide) h5)
  rw [a5, b5]
  by_cases h4 : x = 34
  · subst h4
    refine ⟨fun y hy => ?_, fun h => absurd h (by decide)⟩
    obtain rfl : (34 : UInt8) = y := Option.some.inj hy
    exact p4.1 rfl
  obtain ⟨a4, b4⟩ := p4.2 (u8_ne (n := 34) (by decide) h4)
  rw [a4, b4]
  by_cases h3 : x = 48
  · subst h3
    refine ⟨fun y hy => ?_, fun h => absurd h (by decide)⟩
    obtain rfl : (0 : UInt8) = y := Option.some.inj hy
    exact p3.1 rfl
  obtain ⟨a3, b3⟩ := p3.2 (u8_ne (n := 48) (by decide) h3)
  rw [a3, b3]
  by_cases h2 : x = 116
  · subst h2
    refine ⟨fun y hy => ?_, fun h => absurd h (by decide)⟩
    obtain rfl : (9 : UInt8) = y := Option.some.inj hy
    exact p2.1 rfl
  obtain ⟨a2, b2⟩ := p2.2 (u8_ne (n := 116) (by decide) h2)
  rw [a2, b2]
  by_cases h1 : x = 110
  · subst h1
    refine ⟨fun y hy => ?_, fun h => absurd h (by decide)⟩
    obtain rfl : (10 : UInt8) = y := Option.some.inj hy
    exact p1.1 rfl
  obtain ⟨a1, b1⟩ := p1.2 (u8_ne (n := 110) (by decide) h1)
  rw [a1, b1, if_neg h1, if_neg h2, if_neg h3, if_neg h4, if_neg h5]
  exact ⟨(fun y hy => by cases hy), fun _ => ⟨rfl, rfl⟩⟩
end Go.Proofs.YtgihgmniijhfoaaDoor.LexW
