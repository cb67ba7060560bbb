-- Written by pext.py, a program of this session, over the kit's print: a function's contract
import Derived.Test.YtkjmbfabgkppaaaDoorPx0
import Derived.Test.YtkjmbfabgkppaaaDoorPx1
namespace Go.Proofs.YtkjmbfabgkppaaaDoor.P
open Go.RowKit Go.Proofs.YtkjmbfabgkppaaaDoorW.PrintWords Go.Proofs.YtkjmbfabgkppaaaDoorW.PrintLast Go.Proofs.YtkjmbfabgkppaaaDoorW.PrintMore
attribute [local go_sem] max2_int min2_int max_two min_two max_three min_three max_four min_four   -- for this text's walks alone
set_option linter.unusedVariables false
set_option linter.unusedSimpArgs false


/-! ### labels_Rename: function 10 -/
theorem keyLaw : Maps.Keyed Tryd.prog 9 := Maps.string_keyed Tryd.underlying9
theorem zero3 (w : World) : (zeroValue 3).run Tryd.prog w = .ok (.int .i64 0) w := by kernel_rfl
/-- A map of the call's own, from texts to numbers, of at most n entries: at each text that is not empty it reads as f. -/
def IsCnt (W : World) (b n : Nat) (f : ByteArray → Int) : Prop :=
  ∃ D : DataW Unit, W.ownsMap Tryd.prog 9 (plainElem Tryd.prog 3) b n D ∧ ∀ s : ByteArray, s.size ≠ 0 → D.atKey (.string s.data.toList) (.lit (.int .i64 0)) = .lit (.int .i64 (f s))
theorem IsCnt.made (w : World) : IsCnt (w.alloc (.map #[] 0)) w.heap.size 0 (fun _ => 0) := ⟨_, World.ownsMap_made _ _ _ _, fun _ _ => rfl⟩
theorem IsCnt.lt {W : World} {b n : Nat} {f : ByteArray → Int} (h : IsCnt W b n f) : b < W.heap.size := by obtain ⟨D, h, _⟩ := h; exact h.lt
theorem IsCnt.kept {W W' : World} {b n : Nat} {f : ByteArray → Int} {row : Option Nat} (h : IsCnt W b n f) (hg : W.grownBy W' row) (hne : some b ≠ row) : IsCnt W' b n f := by
  obtain ⟨D, h, hf⟩ := h
  exact ⟨D, h.kept hg hne, hf⟩
theorem IsCnt.alloc {W : World} {b n : Nat} {f : ByteArray → Int} (h : IsCnt W b n f) (o : Obj) : IsCnt (W.alloc o) b n f := by
  obtain ⟨D, h, hf⟩ := h
  exact ⟨D, h.alloc o, hf⟩
theorem IsCnt.below {W W' : World} {b n : Nat} {f : ByteArray → Int} (h : IsCnt W b n f) (hb : Below W.heap.size W W') : IsCnt W' b n f := h.kept (grown_of_below hb none) (by simp)
theorem IsCnt.far {W : World} {b n : Nat} {f : ByteArray → Int} (h : IsCnt W b n f) {p : Addr} (hp : b ≠ p.block) (u : Value) : IsCnt (W.setCell p u) b n f := by
  obtain ⟨D, h, hf⟩ := h
  exact ⟨D, h.setCell hp u, hf⟩
theorem key_of {s : ByteArray} (hs : s.size ≤ maxLen) : keyOf Tryd.prog 9 (.string s) = some (.string s.data.toList) := Go.WideMaps.keyOf_string_mk Tryd.underlying9 hs
theorem IsCnt.look {W : World} {b n : Nat} {f : ByteArray → Int} (h : IsCnt W b n f) {s : ByteArray} (h0 : s.size ≠ 0) (hs : s.size ≤ maxLen) :
    (Instr.lookup 45 (.map (some b)) (.string s) false).run Tryd.prog W = .ok (.int .i64 (f s)) W := by
  obtain ⟨D, h, hf⟩ := h
  obtain ⟨c, hrun, hat, _⟩ := h.lookup_int keyLaw Tryd.underlying45 Tryd.underlying3 (zero3 _) (key_of hs)
  rw [hf s h0] at hat
  injection hat with hat
  injection hat with _ hat
  rw [hrun, hat]
theorem data_inj {s t : ByteArray} (h : s.data.toList = t.data.toList) : s = t := by
  cases s
  cases t
  simp only [ByteArray.mk.injEq]
  exact Array.toList_inj.1 h
/-- What a map reads as behind 'm[s] = c'. -/
theorem put_cnt {D : DataW Unit} {f : ByteArray → Int} (hD : Maps.IsMap D) (hf : ∀ s : ByteArray, s.size ≠ 0 → D.atKey (.string s.data.toList) (.lit (.int .i64 0)) = .lit (.int .i64 (f s))) (s : ByteArray) (c : Int) :
    ∀ t : ByteArray, t.size ≠ 0 → (D.put (.string s.data.toList) (.lit (.int .i64 c))).atKey (.string t.data.toList) (.lit (.int .i64 0)) = .lit (.int .i64 (if t = s then c else f t)) := by
  intro t ht
  by_cases e : t = s
  · subst e
    rw [if_pos rfl]
    exact Maps.atKey_put_same hD (by trivial) _ _
  · rw [if_neg e, Maps.atKey_put_other (fun h => e (data_inj (by injection h)))]
    exact hf t ht
/-- How many of the first i items tell a local number. -/
def tellsB (x : S31) : ByteArray := (labels_tells.f x.f0 x.f1 x.f2 x.f3 x.f4 x.f5 x.f6).getD ⟨#[]⟩
def cnt (l : List S31) (i : Nat) (s : ByteArray) : Int := (((l.take i).filter fun x => decide (tellsB x = s)).length : Nat)
def localB (s : ByteArray) : Bool := (labels_local.f s).getD false
def cutB (s : ByteArray) (c : UInt8) : ByteArray × Bool := (strings_CutSuffix.f s ⟨#[c]⟩).getD (s, false)
def cut2 (s : ByteArray) : ByteArray × Bool := if (cutB s 98).2 = true then cutB s 98 else cutB s 102
/-- What a field is turned into; none: what it asks for is not there. -/
def turnB (l : List S31) (i : Nat) (s : ByteArray) : Option ByteArray :=
  if (cut2 s).2 = true ∧ localB (cut2 s).1 = true then
    (if (cutB s 98).2 = true then
      if cnt l i (cut2 s).1 - 1 < 0 ∨ cnt l l.length (cut2 s).1 ≤ cnt l i (cut2 s).1 - 1 then none else some (nameB (cut2 s).1 (cnt l i (cut2 s).1 - 1))
     else if cnt l i (cut2 s).1 < 0 ∨ cnt l l.length (cut2 s).1 ≤ cnt l i (cut2 s).1 then none else some (nameB (cut2 s).1 (cnt l i (cut2 s).1)))
  else some s
theorem local_eq (s : ByteArray) : labels_local.f s = some (localB s) := by
  have : ∃ b, labels_local.f s = some b := by
    unfold labels_local.f strings_Trim.f
    split
    · exact ⟨_, rfl⟩
    · split
      · rw [if_pos ⟨by omega, rfl⟩]
        exact ⟨_, rfl⟩
      · exact ⟨_, rfl⟩
  obtain ⟨b, h⟩ := this
  unfold localB
  rw [h]
  rfl
theorem tells_eq (x : S31) : labels_tells.f x.f0 x.f1 x.f2 x.f3 x.f4 x.f5 x.f6 = some (tellsB x) := by
  have : ∃ b, labels_tells.f x.f0 x.f1 x.f2 x.f3 x.f4 x.f5 x.f6 = some b := by
    unfold labels_tells.f
    rw [local_eq]
    simp only [Option.bind_some]
    repeat' split
    all_goals exact ⟨_, rfl⟩
  obtain ⟨b, h⟩ := this
  unfold tellsB
  rw [h]
  rfl
theorem cut_eq (s : ByteArray) (c : UInt8) (hs : s.size ≤ 1000000000000) : strings_CutSuffix.f s ⟨#[c]⟩ = some (cutB s c) := by
  have : ∃ b, strings_CutSuffix.f s ⟨#[c]⟩ = some b := by
    unfold strings_CutSuffix.f stringslite_CutSuffix.f stringslite_HasSuffix.f
    have h1 : ((⟨#[c]⟩ : ByteArray).size : Int) = 1 := rfl
    rw [h1]
    by_cases h : (s.size : Int) ≥ 1
    · have hw : wrap64 ((s.size : Int) - 1) = (s.size : Int) - 1 := by unfold wrap64; omega
      rw [if_pos h, hw, if_pos (by omega), if_pos (by omega)]
      simp only [Option.bind_some]
      rw [if_pos (show (0 : Int) ≤ (s.size : Int) - 1 by omega), if_pos (show (s.size : Int) - 1 ≤ s.size by omega)]
      split <;> exact ⟨_, rfl⟩
    · rw [if_neg h]
      exact ⟨_, rfl⟩
  obtain ⟨b, h⟩ := this
  unfold cutB
  rw [h]
  rfl
theorem local_nonempty {s : ByteArray} (h : localB s = true) : s.size ≠ 0 ∧ s.size ≤ 9 := by
  have he := local_eq s
  rw [h] at he
  unfold labels_local.f at he
  split at he
  · simp at he
  · rename_i hne
    split at he
    · refine ⟨fun h0 => hne ?_, by omega⟩
      rw [ByteArray.toList_eq]
      exact List.eq_nil_of_length_eq_zero (by rw [Array.length_toList]; exact h0)
    · simp at he
/-- labels.turn at cell j of block g. -/
def TurnPost (W : World) (g j : Nat) (s : ByteArray) (t : Option ByteArray) (e : Ending) (w' : World) : Prop :=
  ∃ W1, Below W.heap.size W W1 ∧ ((t = none ∧ e = .returned (.bool false) ∧ w' = W1) ∨ (t = some s ∧ e = .returned (.bool true) ∧ w' = W1) ∨ ∃ t', t = some t' ∧ e = .returned (.bool true) ∧ w' = W1.setCell ⟨g, j, none⟩ (.string t'))
theorem cnt_bound (l : List S31) (i : Nat) (s : ByteArray) : 0 ≤ cnt l i s ∧ cnt l i s ≤ l.length := by
  have h1 := List.length_filter_le (fun x => decide (tellsB x = s)) (l.take i)
  have h2 := List.length_take_le i l
  have h3 : (l.take i).length ≤ l.length := by rw [List.length_take]; omega
  unfold cnt
  omega
set_option maxHeartbeats 4000000 in
set_option maxRecDepth 100000 in
theorem turn_bno (W : World) (g j : Nat) (cs : Array Value) (s N : ByteArray) (b5 b6 n5 n6 : Nat) (c5 c6 : Int) (f5 f6 : ByteArray → Int) (hT : Lib.TabIs Tryd.prog W "internal/strconv.uint64pow10" .u64 Lib.pow10Tab)
    (hb : W.heap[g]? = some (.cells cs 31 (0, 0))) (hc : cs[j]? = some (.string s)) (h5 : IsCnt W b5 n5 f5) (h6 : IsCnt W b6 n6 f6) (hB : strings_CutSuffix.f s ⟨#[98]⟩ = some (N, true)) (hL : labels_local.f N = some false) :
    Calls Tryd.prog 22 #[.pointer (some ⟨g, j, none⟩), .map (some b5), .map (some b6)] W fun e w' => ∃ W1, Below W.heap.size W W1 ∧ e = .returned (.bool true) ∧ w' = W1 := by
  have hcl : W.cell? ⟨g, j, none⟩ = some (.string s) := (blk_cell hb j).trans hc
  have hfz := blk_frozen hb j
  have tk0 : True := trivial
  have tkL : True := trivial
  go_enter Tryd.func22, Tryd.ntmps22
  go_wp2_with (first
   | (have _t := tk0; go_at_call 28; (refine (strings_CutSuffix.calls s ⟨#[98]⟩ _ _ _ hB).mono ?_); rintro e w' ⟨rfl, ⟨nd0, rfl⟩⟩; clear tk0)
   | (have _t := tkL; go_at_call 24; (refine (labels_local.calls N _ _ hL).mono ?_); rintro e w2 ⟨rfl, hb2⟩; clear tkL))
  go_ret
  exact ⟨_, below_step (w := W) (by repeat (first | exact Below.refl _ _ | apply pw_below_drewN)) hb2, rfl, rfl⟩

set_option maxHeartbeats 4000000 in
set_option maxRecDepth 100000 in
theorem turn_bneg (W : World) (g j : Nat) (cs : Array Value) (s N : ByteArray) (b5 b6 n5 n6 : Nat) (c5 c6 : Int) (f5 f6 : ByteArray → Int) (hT : Lib.TabIs Tryd.prog W "internal/strconv.uint64pow10" .u64 Lib.pow10Tab)
    (hb : W.heap[g]? = some (.cells cs 31 (0, 0))) (hc : cs[j]? = some (.string s)) (h5 : IsCnt W b5 n5 f5) (h6 : IsCnt W b6 n6 f6) (hB : strings_CutSuffix.f s ⟨#[98]⟩ = some (N, true)) (hL : labels_local.f N = some true) (hN0 : N.size ≠ 0) (hN9 : N.size ≤ 9) (e5 : f5 N = c5) (e6 : f6 N = c6) (hc5 : 0 ≤ c5 ∧ c5 ≤ 1024) (hc6 : 0 ≤ c6 ∧ c6 ≤ 1024) (hneg : c5 - 1 < 0) :
    Calls Tryd.prog 22 #[.pointer (some ⟨g, j, none⟩), .map (some b5), .map (some b6)] W fun e w' => ∃ W1, Below W.heap.size W W1 ∧ e = .returned (.bool false) ∧ w' = W1 := by
  have hcl : W.cell? ⟨g, j, none⟩ = some (.string s) := (blk_cell hb j).trans hc
  have hfz := blk_frozen hb j
  have tk0 : True := trivial
  have m5 : maxLen = 9223372036854775807 := rfl
  have hw1 : wrap64 (c5 - 1) = c5 - 1 := by unfold wrap64; omega
  have dn : decide (c5 - 1 < 0) = true := decide_eq_true (by omega)
  have tkL : True := trivial
  go_enter Tryd.func22, Tryd.ntmps22
  go_wp2_with (first
   | (have _t := tk0; go_at_call 28; (refine (strings_CutSuffix.calls s ⟨#[98]⟩ _ _ _ hB).mono ?_); rintro e w' ⟨rfl, ⟨nd0, rfl⟩⟩; clear tk0)
   | (have _t := tkL; go_at_call 24; (refine (labels_local.calls N _ _ hL).mono ?_); rintro e w2 ⟨rfl, hb2⟩; clear tkL; have HB2 := below_step (w := W) (by repeat (first | exact Below.refl _ _ | apply pw_below_drewN)) hb2; have l5 := ((show IsCnt _ b5 n5 f5 from h5).below HB2).look hN0 (by omega); have l6 := ((show IsCnt _ b6 n6 f6 from h6).below HB2).look hN0 (by omega); rw [e5] at l5; rw [e6] at l6; have hc2 := blk_below hb HB2; have hcl2 := (blk_cell hc2 j).trans hc; have hfz2 := blk_frozen hc2 j))
  go_ret
  exact ⟨_, HB2, rfl, rfl⟩

set_option maxHeartbeats 4000000 in
set_option maxRecDepth 100000 in
theorem turn_bfar (W : World) (g j : Nat) (cs : Array Value) (s N : ByteArray) (b5 b6 n5 n6 : Nat) (c5 c6 : Int) (f5 f6 : ByteArray → Int) (hT : Lib.TabIs Tryd.prog W "internal/strconv.uint64pow10" .u64 Lib.pow10Tab)
    (hb : W.heap[g]? = some (.cells cs 31 (0, 0))) (hc : cs[j]? = some (.string s)) (h5 : IsCnt W b5 n5 f5) (h6 : IsCnt W b6 n6 f6) (hB : strings_CutSuffix.f s ⟨#[98]⟩ = some (N, true)) (hL : labels_local.f N = some true) (hN0 : N.size ≠ 0) (hN9 : N.size ≤ 9) (e5 : f5 N = c5) (e6 : f6 N = c6) (hc5 : 0 ≤ c5 ∧ c5 ≤ 1024) (hc6 : 0 ≤ c6 ∧ c6 ≤ 1024) (hneg : ¬ c5 - 1 < 0) (hfar : c5 - 1 ≥ c6) :
    Calls Tryd.prog 22 #[.pointer (some ⟨g, j, none⟩), .map (some b5), .map (some b6)] W fun e w' => ∃ W1, Below W.heap.size W W1 ∧ e = .returned (.bool false) ∧ w' = W1 := by
  have hcl : W.cell? ⟨g, j, none⟩ = some (.string s) := (blk_cell hb j).trans hc
  have hfz := blk_frozen hb j
  have tk0 : True := trivial
  have m5 : maxLen = 9223372036854775807 := rfl
  have hw1 : wrap64 (c5 - 1) = c5 - 1 := by unfold wrap64; omega
  have dn : decide (c5 - 1 < 0) = false := decide_eq_false (by omega)
  have df : decide (c5 - 1 ≥ c6) = true := decide_eq_true (by omega)
  have df2 : decide (c6 ≤ c5 - 1) = true := decide_eq_true (by omega)
  have tkL : True := trivial
  go_enter Tryd.func22, Tryd.ntmps22
  go_wp2_with (first
   | (have _t := tk0; go_at_call 28; (refine (strings_CutSuffix.calls s ⟨#[98]⟩ _ _ _ hB).mono ?_); rintro e w' ⟨rfl, ⟨nd0, rfl⟩⟩; clear tk0)
   | (have _t := tkL; go_at_call 24; (refine (labels_local.calls N _ _ hL).mono ?_); rintro e w2 ⟨rfl, hb2⟩; clear tkL; have HB2 := below_step (w := W) (by repeat (first | exact Below.refl _ _ | apply pw_below_drewN)) hb2; have l5 := ((show IsCnt _ b5 n5 f5 from h5).below HB2).look hN0 (by omega); have l6 := ((show IsCnt _ b6 n6 f6 from h6).below HB2).look hN0 (by omega); rw [e5] at l5; rw [e6] at l6; have hc2 := blk_below hb HB2; have hcl2 := (blk_cell hc2 j).trans hc; have hfz2 := blk_frozen hc2 j))
  go_ret
  exact ⟨_, HB2, rfl, rfl⟩

set_option maxHeartbeats 4000000 in
set_option maxRecDepth 100000 in
theorem turn_bok (W : World) (g j : Nat) (cs : Array Value) (s N : ByteArray) (b5 b6 n5 n6 : Nat) (c5 c6 : Int) (f5 f6 : ByteArray → Int) (hT : Lib.TabIs Tryd.prog W "internal/strconv.uint64pow10" .u64 Lib.pow10Tab)
    (hb : W.heap[g]? = some (.cells cs 31 (0, 0))) (hc : cs[j]? = some (.string s)) (h5 : IsCnt W b5 n5 f5) (h6 : IsCnt W b6 n6 f6) (hB : strings_CutSuffix.f s ⟨#[98]⟩ = some (N, true)) (hL : labels_local.f N = some true) (hN0 : N.size ≠ 0) (hN9 : N.size ≤ 9) (e5 : f5 N = c5) (e6 : f6 N = c6) (hc5 : 0 ≤ c5 ∧ c5 ≤ 1024) (hc6 : 0 ≤ c6 ∧ c6 ≤ 1024) (hneg : ¬ c5 - 1 < 0) (hfar : ¬ c5 - 1 ≥ c6) :
    Calls Tryd.prog 22 #[.pointer (some ⟨g, j, none⟩), .map (some b5), .map (some b6)] W fun e w' => ∃ W1, Below W.heap.size W W1 ∧ e = .returned (.bool true) ∧ w' = W1.setCell ⟨g, j, none⟩ (.string (nameB N (c5 - 1))) := by
  have hcl : W.cell? ⟨g, j, none⟩ = some (.string s) := (blk_cell hb j).trans hc
  have hfz := blk_frozen hb j
  have tk0 : True := trivial
  have m5 : maxLen = 9223372036854775807 := rfl
  have hw1 : wrap64 (c5 - 1) = c5 - 1 := by unfold wrap64; omega
  have dn : decide (c5 - 1 < 0) = false := decide_eq_false (by omega)
  have df : decide (c5 - 1 ≥ c6) = false := decide_eq_false (by omega)
  have df2 : decide (c6 ≤ c5 - 1) = false := decide_eq_false (by omega)
  have tkL : True := trivial
  have tkN : True := trivial
  go_enter Tryd.func22, Tryd.ntmps22
  go_wp2_with (first
   | (have _t := tk0; go_at_call 28; (refine (strings_CutSuffix.calls s ⟨#[98]⟩ _ _ _ hB).mono ?_); rintro e w' ⟨rfl, ⟨nd0, rfl⟩⟩; clear tk0)
   | (have _t := tkL; go_at_call 24; (refine (labels_local.calls N _ _ hL).mono ?_); rintro e w2 ⟨rfl, hb2⟩; clear tkL; have HB2 := below_step (w := W) (by repeat (first | exact Below.refl _ _ | apply pw_below_drewN)) hb2; have l5 := ((show IsCnt _ b5 n5 f5 from h5).below HB2).look hN0 (by omega); have l6 := ((show IsCnt _ b6 n6 f6 from h6).below HB2).look hN0 (by omega); rw [e5] at l5; rw [e6] at l6; have hc2 := blk_below hb HB2; have hcl2 := (blk_cell hc2 j).trans hc; have hfz2 := blk_frozen hc2 j)
   | (have _t := tkN; go_at_call 21; (refine (labels_name.calls N (c5 - 1) (nameB N (c5 - 1)) _ (Lib.tabBelow_of_tabIs hT _ HB2) (by unfold labels_name.f; rw [if_pos ⟨by omega, by omega, by omega⟩])).mono ?_); rintro e w3 ⟨rfl, hb3⟩; clear tkN; have HB3 := below_step (w := W) HB2 hb3; have hc3 := blk_below hb HB3; have hcl3 := (blk_cell hc3 j).trans hc; have hfz3 := blk_frozen hc3 j))
  go_ret
  exact ⟨_, HB3, rfl, rfl⟩

set_option maxHeartbeats 4000000 in
set_option maxRecDepth 100000 in
theorem turn_fno (W : World) (g j : Nat) (cs : Array Value) (s N : ByteArray) (b5 b6 n5 n6 : Nat) (c5 c6 : Int) (f5 f6 : ByteArray → Int) (hT : Lib.TabIs Tryd.prog W "internal/strconv.uint64pow10" .u64 Lib.pow10Tab)
    (hb : W.heap[g]? = some (.cells cs 31 (0, 0))) (hc : cs[j]? = some (.string s)) (h5 : IsCnt W b5 n5 f5) (h6 : IsCnt W b6 n6 f6) (S0 : ByteArray) (hB : strings_CutSuffix.f s ⟨#[98]⟩ = some (S0, false)) (hF : strings_CutSuffix.f s ⟨#[102]⟩ = some (N, true)) (hL : labels_local.f N = some false) :
    Calls Tryd.prog 22 #[.pointer (some ⟨g, j, none⟩), .map (some b5), .map (some b6)] W fun e w' => ∃ W1, Below W.heap.size W W1 ∧ e = .returned (.bool true) ∧ w' = W1 := by
  have hcl : W.cell? ⟨g, j, none⟩ = some (.string s) := (blk_cell hb j).trans hc
  have hfz := blk_frozen hb j
  have tk0 : True := trivial
  have tk1 : True := trivial
  have tkL : True := trivial
  go_enter Tryd.func22, Tryd.ntmps22
  go_wp2_with (first
   | (have _t := tk0; go_at_call 28; (refine (strings_CutSuffix.calls s ⟨#[98]⟩ _ _ _ hB).mono ?_); rintro e w' ⟨rfl, ⟨nd0, rfl⟩⟩; clear tk0)
   | (have _t := tk1; go_at_call 28; (refine (strings_CutSuffix.calls s ⟨#[102]⟩ _ _ _ hF).mono ?_); rintro e w' ⟨rfl, ⟨nd1, rfl⟩⟩; clear tk1)
   | (have _t := tkL; go_at_call 24; (refine (labels_local.calls N _ _ hL).mono ?_); rintro e w2 ⟨rfl, hb2⟩; clear tkL))
  go_ret
  exact ⟨_, below_step (w := W) (by repeat (first | exact Below.refl _ _ | apply pw_below_drewN)) hb2, rfl, rfl⟩

set_option maxHeartbeats 4000000 in
set_option maxRecDepth 100000 in
theorem turn_ffar (W : World) (g j : Nat) (cs : Array Value) (s N : ByteArray) (b5 b6 n5 n6 : Nat) (c5 c6 : Int) (f5 f6 : ByteArray → Int) (hT : Lib.TabIs Tryd.prog W "internal/strconv.uint64pow10" .u64 Lib.pow10Tab)
    (hb : W.heap[g]? = some (.cells cs 31 (0, 0))) (hc : cs[j]? = some (.string s)) (h5 : IsCnt W b5 n5 f5) (h6 : IsCnt W b6 n6 f6) (S0 : ByteArray) (hB : strings_CutSuffix.f s ⟨#[98]⟩ = some (S0, false)) (hF : strings_CutSuffix.f s ⟨#[102]⟩ = some (N, true)) (hL : labels_local.f N = some true) (hN0 : N.size ≠ 0) (hN9 : N.size ≤ 9) (e5 : f5 N = c5) (e6 : f6 N = c6) (hc5 : 0 ≤ c5 ∧ c5 ≤ 1024) (hc6 : 0 ≤ c6 ∧ c6 ≤ 1024) (hneg : ¬ c5 < 0) (hfar : c5 ≥ c6) :
    Calls Tryd.prog 22 #[.pointer (some ⟨g, j, none⟩), .map (some b5), .map (some b6)] W fun e w' => ∃ W1, Below W.heap.size W W1 ∧ e = .returned (.bool false) ∧ w' = W1 := by
  have hcl : W.cell? ⟨g, j, none⟩ = some (.string s) := (blk_cell hb j).trans hc
  have hfz := blk_frozen hb j
  have tk0 : True := trivial
  have tk1 : True := trivial
  have m5 : maxLen = 9223372036854775807 := rfl
  have dn : decide (c5 < 0) = false := decide_eq_false (by omega)
  have df : decide (c5 ≥ c6) = true := decide_eq_true (by omega)
  have df2 : decide (c6 ≤ c5) = true := decide_eq_true (by omega)
  have tkL : True := trivial
  go_enter Tryd.func22, Tryd.ntmps22
  go_wp2_with (first
   | (have _t := tk0; go_at_call 28; (refine (strings_CutSuffix.calls s ⟨#[98]⟩ _ _ _ hB).mono ?_); rintro e w' ⟨rfl, ⟨nd0, rfl⟩⟩; clear tk0)
   | (have _t := tk1; go_at_call 28; (refine (strings_CutSuffix.calls s ⟨#[102]⟩ _ _ _ hF).mono ?_); rintro e w' ⟨rfl, ⟨nd1, rfl⟩⟩; clear tk1)
   | (have _t := tkL; go_at_call 24; (refine (labels_local.calls N _ _ hL).mono ?_); rintro e w2 ⟨rfl, hb2⟩; clear tkL; have HB2 := below_step (w := W) (by repeat (first | exact Below.refl _ _ | apply pw_below_drewN)) hb2; have l5 := ((show IsCnt _ b5 n5 f5 from h5).below HB2).look hN0 (by omega); have l6 := ((show IsCnt _ b6 n6 f6 from h6).below HB2).look hN0 (by omega); rw [e5] at l5; rw [e6] at l6; have hc2 := blk_below hb HB2; have hcl2 := (blk_cell hc2 j).trans hc; have hfz2 := blk_frozen hc2 j))
  go_ret
  exact ⟨_, HB2, rfl, rfl⟩

set_option maxHeartbeats 4000000 in
set_option maxRecDepth 100000 in
theorem turn_fok (W : World) (g j : Nat) (cs : Array Value) (s N : ByteArray) (b5 b6 n5 n6 : Nat) (c5 c6 : Int) (f5 f6 : ByteArray → Int) (hT : Lib.TabIs Tryd.prog W "internal/strconv.uint64pow10" .u64 Lib.pow10Tab)
    (hb : W.heap[g]? = some (.cells cs 31 (0, 0))) (hc : cs[j]? = some (.string s)) (h5 : IsCnt W b5 n5 f5) (h6 : IsCnt W b6 n6 f6) (S0 : ByteArray) (hB : strings_CutSuffix.f s ⟨#[98]⟩ = some (S0, false)) (hF : strings_CutSuffix.f s ⟨#[102]⟩ = some (N, true)) (hL : labels_local.f N = some true) (hN0 : N.size ≠ 0) (hN9 : N.size ≤ 9) (e5 : f5 N = c5) (e6 : f6 N = c6) (hc5 : 0 ≤ c5 ∧ c5 ≤ 1024) (hc6 : 0 ≤ c6 ∧ c6 ≤ 1024) (hneg : ¬ c5 < 0) (hfar : ¬ c5 ≥ c6) :
    Calls Tryd.prog 22 #[.pointer (some ⟨g, j, none⟩), .map (some b5), .map (some b6)] W fun e w' => ∃ W1, Below W.heap.size W W1 ∧ e = .returned (.bool true) ∧ w' = W1.setCell ⟨g, j, none⟩ (.string (nameB N (c5))) := by
  have hcl : W.cell? ⟨g, j, none⟩ = some (.string s) := (blk_cell hb j).trans hc
  have hfz := blk_frozen hb j
  have tk0 : True := trivial
  have tk1 : True := trivial
  have m5 : maxLen = 9223372036854775807 := rfl
  have dn : decide (c5 < 0) = false := decide_eq_false (by omega)
  have df : decide (c5 ≥ c6) = false := decide_eq_false (by omega)
  have df2 : decide (c6 ≤ c5) = false := decide_eq_false (by omega)
  have tkL : True := trivial
  have tkN : True := trivial
  go_enter Tryd.func22, Tryd.ntmps22
  go_wp2_with (first
   | (have _t := tk0; go_at_call 28; (refine (strings_CutSuffix.calls s ⟨#[98]⟩ _ _ _ hB).mono ?_); rintro e w' ⟨rfl, ⟨nd0, rfl⟩⟩; clear tk0)
   | (have _t := tk1; go_at_call 28; (refine (strings_CutSuffix.calls s ⟨#[102]⟩ _ _ _ hF).mono ?_); rintro e w' ⟨rfl, ⟨nd1, rfl⟩⟩; clear tk1)
   | (have _t := tkL; go_at_call 24; (refine (labels_local.calls N _ _ hL).mono ?_); rintro e w2 ⟨rfl, hb2⟩; clear tkL; have HB2 := below_step (w := W) (by repeat (first | exact Below.refl _ _ | apply pw_below_drewN)) hb2; have l5 := ((show IsCnt _ b5 n5 f5 from h5).below HB2).look hN0 (by omega); have l6 := ((show IsCnt _ b6 n6 f6 from h6).below HB2).look hN0 (by omega); rw [e5] at l5; rw [e6] at l6; have hc2 := blk_below hb HB2; have hcl2 := (blk_cell hc2 j).trans hc; have hfz2 := blk_frozen hc2 j)
   | (have _t := tkN; go_at_call 21; (refine (labels_name.calls N (c5) (nameB N (c5)) _ (Lib.tabBelow_of_tabIs hT _ HB2) (by unfold labels_name.f; rw [if_pos ⟨by omega, by omega, by omega⟩])).mono ?_); rintro e w3 ⟨rfl, hb3⟩; clear tkN; have HB3 := below_step (w := W) HB2 hb3; have hc3 := blk_below hb HB3; have hcl3 := (blk_cell hc3 j).trans hc; have hfz3 := blk_frozen hc3 j))
  go_ret
  exact ⟨_, HB3, rfl, rfl⟩

set_option maxHeartbeats 4000000 in
set_option maxRecDepth 100000 in
theorem turn_none (W : World) (g j : Nat) (cs : Array Value) (s N : ByteArray) (b5 b6 n5 n6 : Nat) (c5 c6 : Int) (f5 f6 : ByteArray → Int) (hT : Lib.TabIs Tryd.prog W "internal/strconv.uint64pow10" .u64 Lib.pow10Tab)
    (hb : W.heap[g]? = some (.cells cs 31 (0, 0))) (hc : cs[j]? = some (.string s)) (h5 : IsCnt W b5 n5 f5) (h6 : IsCnt W b6 n6 f6) (S0 S1 : ByteArray) (hB : strings_CutSuffix.f s ⟨#[98]⟩ = some (S0, false)) (hF : strings_CutSuffix.f s ⟨#[102]⟩ = some (S1, false)) :
    Calls Tryd.prog 22 #[.pointer (some ⟨g, j, none⟩), .map (some b5), .map (some b6)] W fun e w' => ∃ W1, Below W.heap.size W W1 ∧ e = .returned (.bool true) ∧ w' = W1 := by
  have hcl : W.cell? ⟨g, j, none⟩ = some (.string s) := (blk_cell hb j).trans hc
  have hfz := blk_frozen hb j
  have tk0 : True := trivial
  have tk1 : True := trivial
  go_enter Tryd.func22, Tryd.ntmps22
  go_wp2_with (first
   | (have _t := tk0; go_at_call 28; (refine (strings_CutSuffix.calls s ⟨#[98]⟩ _ _ _ hB).mono ?_); rintro e w' ⟨rfl, ⟨nd0, rfl⟩⟩; clear tk0)
   | (have _t := tk1; go_at_call 28; (refine (strings_CutSuffix.calls s ⟨#[102]⟩ _ _ _ hF).mono ?_); rintro e w' ⟨rfl, ⟨nd1, rfl⟩⟩; clear tk1))
  go_ret
  exact ⟨_, by repeat (first | exact Below.refl _ _ | apply pw_below_drewN), rfl, rfl⟩

theorem turn_calls (l : List S31) (i : Nat) (W : World) (g j : Nat) (cs : Array Value) (s : ByteArray) (b5 b6 n5 n6 : Nat) (hT : Lib.TabIs Tryd.prog W "internal/strconv.uint64pow10" .u64 Lib.pow10Tab)
    (hb : W.heap[g]? = some (.cells cs 31 (0, 0))) (hc : cs[j]? = some (.string s)) (hs : s.size ≤ 1000000000000) (hl : l.length ≤ 1024) (h5 : IsCnt W b5 n5 (cnt l i)) (h6 : IsCnt W b6 n6 (cnt l l.length)) :
    Calls Tryd.prog 22 #[.pointer (some ⟨g, j, none⟩), .map (some b5), .map (some b6)] W fun e w' => TurnPost W g j s (turnB l i s) e w' := by
  have eB := cut_eq s 98 hs
  have eF := cut_eq s 102 hs
  unfold turnB cut2
  generalize cutB s 98 = X at eB ⊢
  generalize cutB s 102 = Y at eF ⊢
  obtain ⟨N, q⟩ := X
  obtain ⟨M, q'⟩ := Y
  simp only at eB eF ⊢
  have yes : ∀ {P : ByteArray}, localB P = true → labels_local.f P = some true := fun h => by rw [local_eq, h]
  have no : ∀ {P : ByteArray}, localB P = false → labels_local.f P = some false := fun h => by rw [local_eq, h]
  have B : ∀ P : ByteArray, (0 ≤ cnt l i P ∧ cnt l i P ≤ 1024) ∧ (0 ≤ cnt l l.length P ∧ cnt l l.length P ≤ 1024) := fun P => by
    have := cnt_bound l i P
    have := cnt_bound l l.length P
    omega
  have keep : ∀ {t : Option ByteArray} {e : Ending} {w' : World}, t = some s → (∃ W1, Below W.heap.size W W1 ∧ e = .returned (.bool true) ∧ w' = W1) → TurnPost W g j s t e w' :=
    fun ht ⟨W1, hb, he, hw⟩ => ⟨W1, hb, .inr (.inl ⟨ht, he, hw⟩)⟩
  have bad : ∀ {t : Option ByteArray} {e : Ending} {w' : World}, t = none → (∃ W1, Below W.heap.size W W1 ∧ e = .returned (.bool false) ∧ w' = W1) → TurnPost W g j s t e w' :=
    fun ht ⟨W1, hb, he, hw⟩ => ⟨W1, hb, .inl ⟨ht, he, hw⟩⟩
  have good : ∀ {t : Option ByteArray} {t' : ByteArray} {e : Ending} {w' : World}, t = some t' → (∃ W1, Below W.heap.size W W1 ∧ e = .returned (.bool true) ∧ w' = W1.setCell ⟨g, j, none⟩ (.string t')) → TurnPost W g j s t e w' :=
    fun ht ⟨W1, hb, he, hw⟩ => ⟨W1, hb, .inr (.inr ⟨_, ht, he, hw⟩)⟩
  cases q
  · simp only [Bool.false_eq_true, if_false]
    cases q'
    · exact (turn_none W g j cs s N b5 b6 n5 n6 0 0 _ _ hT hb hc h5 h6 N M eB eF).mono fun e w' h => keep (by simp) h
    · cases hL : localB M
      · exact (turn_fno W g j cs s M b5 b6 n5 n6 0 0 _ _ hT hb hc h5 h6 N eB eF (no hL)).mono fun e w' h => keep (by simp) h
      · obtain ⟨z0, z9⟩ := local_nonempty hL
        have hn : ¬ cnt l i M < 0 := by have := (B M).1; omega
        by_cases hf : cnt l i M ≥ cnt l l.length M
        · exact (turn_ffar W g j cs s M b5 b6 n5 n6 _ _ _ _ hT hb hc h5 h6 N eB eF (yes hL) z0 z9 rfl rfl (B M).1 (B M).2 hn hf).mono fun e w' h => bad (by simp [hn]; omega) h
        · exact (turn_fok W g j cs s M b5 b6 n5 n6 _ _ _ _ hT hb hc h5 h6 N eB eF (yes hL) z0 z9 rfl rfl (B M).1 (B M).2 hn hf).mono fun e w' h => good (by simp [hn]; omega) h
  · simp only [if_true]
    cases hL : localB N
    · exact (turn_bno W g j cs s N b5 b6 n5 n6 0 0 _ _ hT hb hc h5 h6 eB (no hL)).mono fun e w' h => keep (by simp) h
    · obtain ⟨z0, z9⟩ := local_nonempty hL
      by_cases hn : cnt l i N - 1 < 0
      · exact (turn_bneg W g j cs s N b5 b6 n5 n6 _ _ _ _ hT hb hc h5 h6 eB (yes hL) z0 z9 rfl rfl (B N).1 (B N).2 hn).mono fun e w' h => bad (by simp; omega) h
      · by_cases hf : cnt l i N - 1 ≥ cnt l l.length N
        · exact (turn_bfar W g j cs s N b5 b6 n5 n6 _ _ _ _ hT hb hc h5 h6 eB (yes hL) z0 z9 rfl rfl (B N).1 (B N).2 hn hf).mono fun e w' h => bad (by simp; omega) h
        · exact (turn_bok W g j cs s N b5 b6 n5 n6 _ _ _ _ hT hb hc h5 h6 eB (yes hL) z0 z9 rfl rfl (B N).1 (B N).2 hn hf).mono fun e w' h => good (by simp; omega) h
theorem clone_calls (A : Option Addr) (c : Nat) (l : List Int) (w : World) (hr : Kd.C (Kd.int .u8) w A l.length l) (hlen : l.length < 140737488355328) :
    Calls Tryd.prog 20 #[.slice A l.length c] w fun e w' => ∃ v0_ : Value, e = .returned v0_ ∧ Kd.R (Kd.int .u8) 5 w' w.heap.size (fun _ => True) v0_ l ∧ Below w.heap.size w w' := by
  cases A with
  | none =>
    have h0 : l = [] := by
      cases l with
      | nil => rfl
      | cons x l =>
        obtain ⟨ad, h, _⟩ := Kd.at_int hr 0 (Int.le_refl _) (by simp)
        cases h
    subst h0
    refine (Tryd.bytes_Clone_nil 0 c w).mono ?_
    rintro e w' ⟨rfl, rfl⟩
    exact ⟨_, rfl, Kd.R_nil _ _ _ _ _, Below.refl _ _⟩
  | some a =>
    refine (Tryd.bytes_Clone_at a l.length c l w rfl (by omega) (fun i hi => ?_)).mono ?_
    · obtain ⟨ad, h, hx⟩ := Kd.at_int hr (i : Int) (by omega) (by omega)
      cases h
      simpa [rd] using hx
    · rintro e w' ⟨v', rfl, ho, _, hb⟩
      exact ⟨v', rfl, Kd.R_of_own ho (fun _ _ => trivial), hb⟩
theorem tells_size (x : S31) : (tellsB x).size ≤ 9 := by
  have h := tells_eq x
  unfold labels_tells.f at h
  rw [local_eq] at h
  simp only [Option.bind_some] at h
  split at h
  · split at h
    · rename_i hl
      rw [← Option.some.inj h]
      exact (local_nonempty hl).2
    · rw [← Option.some.inj h]
      decide
  · rw [← Option.some.inj h]
    decide
theorem IsCnt.mono {W : World} {b n : Nat} {f f' : ByteArray → Int} (h : IsCnt W b n f) (hf : ∀ s : ByteArray, s.size ≠ 0 → f' s = f s) : IsCnt W b n f' := by
  obtain ⟨D, h, hd⟩ := h
  exact ⟨D, h, fun s hs => by rw [hd s hs, hf s hs]⟩
theorem IsCnt.up {W : World} {b n n' : Nat} {f : ByteArray → Int} (h : IsCnt W b n f) (hn : n ≤ n') : IsCnt W b n' f := by
  obtain ⟨D, h, hd⟩ := h
  exact ⟨D, h.mono hn, hd⟩
theorem cnt_zero (l : List S31) (s : ByteArray) : cnt l 0 s = 0 := by simp [cnt]
theorem cnt_succ (l : List S31) (k : Nat) (hk : k < l.length) (s : ByteArray) : cnt l (k + 1) s = if s = tellsB (rd_T31 l (k : Int)) then cnt l k s + 1 else cnt l k s := by
  have hr : rd_T31 l (k : Int) = l[k] := by simp [rd_T31, List.getD, List.getElem?_eq_getElem hk]
  unfold cnt
  rw [hr, List.take_add_one, List.getElem?_eq_getElem hk, List.filter_append]
  simp only [Option.toList_some, List.length_append]
  by_cases h : s = tellsB l[k]
  · rw [if_pos h]
    simp [h]
  · rw [if_neg h]
    simp [show ¬ tellsB l[k] = s from fun e => h e.symm]
/-- Item number i, renamed; none: a field asks for what is not there. -/
def oneB (l : List S31) (i : Nat) : Option S31 :=
  if (tellsB (rd_T31 l (i : Int))).size ≠ 0 then some { rd_T31 l (i : Int) with f3 := nameB (tellsB (rd_T31 l (i : Int))) (cnt l i (tellsB (rd_T31 l (i : Int)))) }
  else if (rd_T31 l (i : Int)).f0 = 1 then (turnB l i (rd_T31 l (i : Int)).f3).map fun s => { rd_T31 l (i : Int) with f3 := s }
  else if (rd_T31 l (i : Int)).f0 = 3 then (turnB l i (rd_T31 l (i : Int)).f3).bind fun s => (turnB l i (rd_T31 l (i : Int)).f4).map fun t => { rd_T31 l (i : Int) with f3 := s, f4 := t }
  else some (rd_T31 l (i : Int))
def renameFrom (l : List S31) : Nat → Nat → List S31 → List S31 × Int × Int
  | 0, _, out => (out, 0, 0)
  | d + 1, i, out => match oneB l i with
    | none => ([], (i : Int), 210)
    | some y => renameFrom l d (i + 1) (out ++ [y])
def renameF (l : List S31) : List S31 × Int × Int := if l.length > 1024 then ([], 0, 4) else renameFrom l l.length 0 []
def okItem (x : S31) : Bool := decide (x.f3.size ≤ 1000000000000 ∧ x.f4.size ≤ 1000000000000 ∧ x.f1.length < 140737488355328)
def labels_Rename.f (l0 : List S31) : Option (List S31 × Int × Int) := if l0.all okItem = true then some (renameF l0) else none
theorem put_step {l : List S31} {D : DataW Unit} {k : Nat} {c : Int} (i : Int) (hi : i = (k : Int)) (hk : k < l.length) (hl : l.length ≤ 1024) (hD : Maps.IsMap D)
    (hf : ∀ s : ByteArray, s.size ≠ 0 → D.atKey (.string s.data.toList) (.lit (.int .i64 0)) = .lit (.int .i64 (cnt l k s)))
    (hat : D.atKey (.string (tellsB (rd_T31 l i)).data.toList) (.lit (.int .i64 0)) = .lit (.int .i64 c)) :
    ∀ s : ByteArray, s.size ≠ 0 → (D.put (.string (tellsB (rd_T31 l i)).data.toList) (.lit (.int .i64 (wrap64 (c + 1))))).atKey (.string s.data.toList) (.lit (.int .i64 0)) = .lit (.int .i64 (cnt l (k + 1) s)) := by
  subst hi
  intro s hs
  rw [put_cnt hD hf _ _ s hs, cnt_succ l k hk]
  by_cases e : s = tellsB (rd_T31 l (k : Int))
  · rw [if_pos e, if_pos e]
    have h1 := hf s hs
    rw [e, hat] at h1
    injection h1 with h1
    injection h1 with _ h1
    have hb := cnt_bound l k s
    rw [e, ← h1] at hb
    rw [e, ← h1, show wrap64 (c + 1) = c + 1 by unfold wrap64; omega]
  · rw [if_neg e, if_neg e]
/-- What holds while an item is turned: the row of those that are done, the item's own bytes, the two maps, the item's block. -/
structure St (w W : World) (g b5 b6 n5 n6 : Nat) (f5 f6 : ByteArray → Int) (v v' : Value) (out : List S31) (ys : List Int) (cs : Array Value) : Prop where
  row : Kd.S k31 31 W w.heap.size (fun q => (q ≠ b5 ∧ q ≠ b6) ∧ q ≠ g ∧ ¬ some q = v'.ownBlock) v out
  cl : Kd.R (Kd.int .u8) 5 W w.heap.size (fun q => q ≠ g ∧ q ≠ b5 ∧ q ≠ b6) v' ys
  m5 : IsCnt W b5 n5 f5
  m6 : IsCnt W b6 n6 f6
  ge : w.heap.size ≤ g
  ne5 : b5 ≠ g
  ne6 : b6 ≠ g
  bel : Below w.heap.size w W
  bk : W.heap[g]? = some (.cells cs 31 (0, 0))
section
variable {w W W' : World} {g b5 b6 n5 n6 : Nat} {f5 f6 : ByteArray → Int} {v v' : Value} {out : List S31} {ys : List Int} {cs : Array Value}
theorem St.below (h : St w W g b5 b6 n5 n6 f5 f6 v v' out ys cs) (hb : Below W.heap.size W W') : St w W' g b5 b6 n5 n6 f5 f6 v v' out ys cs :=
  ⟨Kd.S_below h.row hb, Kd.R_below h.cl hb, h.m5.below hb, h.m6.below hb, h.ge, h.ne5, h.ne6, below_step h.bel hb, blk_below h.bk hb⟩
theorem St.set (h : St w W g b5 b6 n5 n6 f5 f6 v v' out ys cs) (j : Nat) (u : Value) : St w (W.setCell ⟨g, j, none⟩ u) g b5 b6 n5 n6 f5 f6 v v' out ys (cs.setIfInBounds j u) :=
  ⟨Kd.S_far h.row (fun _ hk => hk.2.1) u, Kd.R_far h.cl (fun _ hk => hk.1) u, h.m5.far h.ne5 u, h.m6.far h.ne6 u, h.ge, h.ne5, h.ne6, below_set h.bel h.ge, blk_set h.bk j u⟩
theorem St.put5 {n5' : Nat} {f5' : ByteArray → Int} (h : St w W g b5 b6 n5 n6 f5 f6 v v' out ys cs) (hg : W.grownBy W' (some b5)) (h5 : IsCnt W' b5 n5' f5') (h56 : b6 ≠ b5) (hB : w.heap.size ≤ b5) : St w W' g b5 b6 n5' n6 f5' f6 v v' out ys cs :=
  ⟨Kd.S_grown h.row hg (fun k hk e => hk.1.1 (Option.some.inj e)), Kd.R_grown h.cl hg (fun k hk e => hk.2.1 (Option.some.inj e)), h5, h.m6.kept hg (fun e => h56 (Option.some.inj e)), h.ge, h.ne5, h.ne6, Below.grown h.bel hg (below_size h.bel) (fun q e => by cases e; exact hB), blk_grown h.bk hg (fun e => h.ne5 (Option.some.inj e).symm)⟩
/-- The item's block is new; its bytes are copied. -/
theorem St.made (hrow : Kd.S k31 31 W w.heap.size (fun q => (q ≠ b5 ∧ q ≠ b6) ∧ q ≠ g) v out) (h5 : IsCnt W b5 n5 f5) (h6 : IsCnt W b6 n6 f6) (hge : w.heap.size ≤ g) (ne5 : b5 ≠ g) (ne6 : b6 ≠ g) (bel : Below w.heap.size w W)
    (bk : W.heap[g]? = some (.cells cs 31 (0, 0))) (hc : Kd.R (Kd.int .u8) 5 W' W.heap.size (fun _ => True) v' ys) (hb : Below W.heap.size W W') : St w W' g b5 b6 n5 n6 f5 f6 v v' out ys cs := by
  refine ⟨Kd.S_mono (Kd.S_elder' hrow (fun k hk => Kd.R_base hc k hk) hb) (fun k hk => ⟨hk.1.1, hk.1.2, hk.2⟩), ?_, h5.below hb, h6.below hb, hge, ne5, ne6, below_step bel hb, blk_below bk hb⟩
  have l5 := h5.lt
  have l6 := h6.lt
  have lg := blk_lt bk
  exact Kd.R_mono (Kd.R_lower (Kd.R_bound hc) (below_size bel)) (fun k hk => by have := hk.2.1; omega)
end
theorem turn_st {w W w' : World} {g b5 b6 n5 n6 : Nat} {f5 f6 : ByteArray → Int} {v v' : Value} {out : List S31} {ys : List Int} {cs : Array Value} {j : Nat} {s t : ByteArray} {e : Ending}
    (h : St w W g b5 b6 n5 n6 f5 f6 v v' out ys cs) (hc : cs[j]? = some (.string s)) (hp : TurnPost W g j s (some t) e w') : e = .returned (.bool true) ∧ St w w' g b5 b6 n5 n6 f5 f6 v v' out ys (cs.setIfInBounds j (.string t)) := by
  obtain ⟨W1, hb, ⟨h0, _⟩ | ⟨h0, rfl, rfl⟩ | ⟨t', h0, rfl, rfl⟩⟩ := hp
  · cases h0
  · obtain rfl := Option.some.inj h0
    refine ⟨rfl, ?_⟩
    have : cs.setIfInBounds j (.string t) = cs := by
      apply Array.ext_getElem?
      intro q
      rw [Array.getElem?_setIfInBounds]
      split
      · rename_i e
        subst e
        split
        · exact hc.symm
        · rename_i hn
          rw [Array.getElem?_eq_none (by omega)]
      · rfl
    rw [this]
    exact h.below hb
  · obtain rfl := Option.some.inj h0
    exact ⟨rfl, (h.below hb).set j _⟩
theorem turn_no {w W w' : World} {g b5 b6 n5 n6 : Nat} {f5 f6 : ByteArray → Int} {v v' : Value} {out : List S31} {ys : List Int} {cs : Array Value} {j : Nat} {s : ByteArray} {e : Ending}
    (h : St w W g b5 b6 n5 n6 f5 f6 v v' out ys cs) (hp : TurnPost W g j s none e w') : e = .returned (.bool false) ∧ St w w' g b5 b6 n5 n6 f5 f6 v v' out ys cs := by
  obtain ⟨W1, hb, ⟨h0, rfl, rfl⟩ | ⟨h0, rfl, rfl⟩ | ⟨t', h0, rfl, rfl⟩⟩ := hp
  · exact ⟨rfl, h.below hb⟩
  · cases h0
  · cases h0
set_option maxHeartbeats 8000000 in
set_option maxRecDepth 1000000 in
theorem labels_Rename.calls (A0 : Option Addr) (c0 : Nat) (l0 : List (S31)) (r1 : List (S31)) (r2 r3 : Int) (w : World) (hr0 : Kd.C k31 w A0 l0.length l0) (hc0 : l0.length ≤ c0) (hT : Lib.TabIs Tryd.prog w "internal/strconv.uint64pow10" .u64 Lib.pow10Tab) (h : labels_Rename.f l0 = some (r1, r2, r3)) :
    Calls Tryd.prog 10 #[.slice A0 l0.length c0] w fun e w' => ∃ v0_ : Value, e = .returned (.tuple #[v0_, .int .i64 r2, .int .i64 r3]) ∧ Kd.S k31 31 w' w.heap.size (fun _ => True) v0_ r1 ∧ Below w.heap.size w w' := by
  unfold labels_Rename.f at h
  by_cases hok0 : ¬ l0.all okItem = true
  · rw [if_neg hok0] at h
    cases h
  have hok := Decidable.not_not.1 hok0
  clear hok0
  rw [if_pos hok] at h
  have hres := Option.some.inj h
  clear h
  have OK := Aside0.mk hok
  clear hok
  have HR0 := Aside0.mk hr0
  have HC0 := Aside0.mk hc0
  have HT := Aside0.mk hT
  clear hr0 hc0 hT
  have hmm := @run_makeMap Tryd.prog
  unfold renameF at hres
  by_cases h1024 : l0.length > 1024
  · rw [if_pos h1024] at hres
    cases hres
    have f1 : decide ((1024 : Int) < (l0.length : Int)) = true := decide_eq_true (by omega)
    have f2 : decide (1024 < l0.length) = true := decide_eq_true h1024
    go_enter Tryd.func10, Tryd.ntmps10
    go_wp2
    go_ret3
    exact ⟨_, rfl, Kd.S_nil _ _ _ _ _, Below.refl _ _⟩
  rw [if_neg h1024] at hres
  have f1 : decide ((1024 : Int) < (l0.length : Int)) = false := decide_eq_false (by omega)
  have f2 : decide (1024 < l0.length) = false := decide_eq_false h1024
  have hl : l0.length ≤ 1024 := by omega
  clear h1024
  have RES := Aside0.mk hres
  clear hres
  have HL := Aside0.mk hl
  clear hl
  go_enter Tryd.func10, Tryd.ntmps10
  go_wp2
  clear f1 f2
  go_loopg [20] l0.length (fun gf v wx => ∃ (i : Int) (k : Nat), v = .int .i64 i ∧ Aside0 (i = (k : Int) ∧ k + gf = l0.length) ∧ Aside0 (IsCnt wx w.heap.size 0 (fun _ => 0)) ∧ Aside0 (IsCnt wx (w.heap.size + 1) k (cnt l0 k)) ∧ Aside0 (Below w.heap.size w wx))
  case atStart =>
    have hs1 : (w.alloc (.map #[] 0)).heap.size = w.heap.size + 1 := Array.size_push _
    have hb2 := IsCnt.made (w.alloc (.map #[] 0))
    rw [hs1] at hb2
    exact ⟨0, 0, rfl, ⟨rfl, by omega⟩, ⟨(IsCnt.made w).alloc _⟩, ⟨hb2.mono (fun s _ => cnt_zero l0 s)⟩, ⟨below_alloc (below_alloc (Below.refl _ _) _) _⟩⟩
  case round =>
    obtain ⟨i, k, rfl, KI, M5, M6, HB⟩ := hrel
    by_cases hk : k < l0.length
    · obtain ⟨g', rfl⟩ : ∃ g', gk = g' + 1 := ⟨gk - 1, by have := KI.out; omega⟩
      obtain ⟨ad1, A1, c1, e1, hx0, hx1, hx2, hx3, hx4, hx5, hx6, hl1, hi1⟩ := at_T31 HR0.out i (by have := KI.out; omega) (by have := KI.out; omega)
      cases e1
      replace hx0 := (HB.out.cell (World.block_lt_of_cell? w _ hx0)).trans hx0
      replace hx1 := (HB.out.cell (World.block_lt_of_cell? w _ hx1)).trans hx1
      replace hx2 := (HB.out.cell (World.block_lt_of_cell? w _ hx2)).trans hx2
      replace hx3 := (HB.out.cell (World.block_lt_of_cell? w _ hx3)).trans hx3
      replace hx4 := (HB.out.cell (World.block_lt_of_cell? w _ hx4)).trans hx4
      replace hx5 := (HB.out.cell (World.block_lt_of_cell? w _ hx5)).trans hx5
      replace hx6 := (HB.out.cell (World.block_lt_of_cell? w _ hx6)).trans hx6
      have HRx := Aside0.mk hi1
      have HCx := Aside0.mk hl1
      clear hi1 hl1
      have p1 : (0 ≤ (i : Int)) = True := eq_true (by have := KI.out; omega)
      have q1 : (i < (l0.length : Int)) = True := eq_true (by have := KI.out; omega)
      have q1b : decide (i < (l0.length : Int)) = true := decide_eq_true (by have := KI.out; omega)
      have p1b : decide ((0 : Int) ≤ i) = true := decide_eq_true (by have := KI.out; omega)
      go_wp2_with (first
        | ((with_reducible refine gate_dst (N := 8) rfl ?_); refine box_event ?hg (N := 8) ?hd (cs := #[.int .u8 0, .slice none 0 0, .int .u8 0, .string (⟨#[]⟩ : ByteArray), .string (⟨#[]⟩ : ByteArray), .int .i64 0, .int .i64 0]) (t := 31) ?hr ?_; (case hd => rfl); (case hg => rfl); (case hr => first | (go_simp; done) | (go_simp; rfl)); intro g1 hg w2 hbox hb; have HB2 := Aside0.mk (below_step HB.out hb); have GE := Aside0.mk (show w.heap.size ≤ g1 by rw [hg]; exact below_size HB.out); have NE5 := Aside0.mk (show w.heap.size ≠ g1 by rw [hg]; exact Nat.ne_of_lt M5.out.lt); have NE6 := Aside0.mk (show (w.heap.size + 1) ≠ g1 by rw [hg]; exact Nat.ne_of_lt M6.out.lt); have M5b := Aside0.mk (M5.out.below hb); have M6b := Aside0.mk (M6.out.below hb); have BK := Aside0.mk hbox; clear hb hbox hg; have hcz2_0 : w2.cell? ⟨g1, 0, none⟩ = some (.int .u8 0) := (blk_cell BK.out 0).trans rfl; have hcz2_1 : w2.cell? ⟨g1, 1, none⟩ = some (.slice none 0 0) := (blk_cell BK.out 1).trans rfl; have hcz2_2 : w2.cell? ⟨g1, 2, none⟩ = some (.int .u8 0) := (blk_cell BK.out 2).trans rfl; have hcz2_3 : w2.cell? ⟨g1, 3, none⟩ = some (.string (⟨#[]⟩ : ByteArray)) := (blk_cell BK.out 3).trans rfl; have hcz2_4 : w2.cell? ⟨g1, 4, none⟩ = some (.string (⟨#[]⟩ : ByteArray)) := (blk_cell BK.out 4).trans rfl; have hcz2_5 : w2.cell? ⟨g1, 5, none⟩ = some (.int .i64 0) := (blk_cell BK.out 5).trans rfl; have hcz2_6 : w2.cell? ⟨g1, 6, none⟩ = some (.int .i64 0) := (blk_cell BK.out 6).trans rfl; have hfz2_0 := blk_frozen BK.out 0; have hfz2_1 := blk_frozen BK.out 1; have hfz2_2 := blk_frozen BK.out 2; have hfz2_3 := blk_frozen BK.out 3; have hfz2_4 := blk_frozen BK.out 4; have hfz2_5 := blk_frozen BK.out 5; have hfz2_6 := blk_frozen BK.out 6)
        | (go_at_call 19; (refine (labels_tells.calls (rd_T31 l0 i).f0 A1 c1 (rd_T31 l0 i).f1 (rd_T31 l0 i).f2 (rd_T31 l0 i).f3 (rd_T31 l0 i).f4 (rd_T31 l0 i).f5 (rd_T31 l0 i).f6 (tellsB (rd_T31 l0 i)) _ ?s1 ?s2 (tells_eq (rd_T31 l0 i))).mono ?_); (case s1 => exact Kd.C_below HRx.out (by repeat (first | (with_reducible first | exact HB2.out | refine below_set ?_ GE.out) | exact HB2.out))); (case s2 => exact HCx.out); rintro e w3 ⟨rfl, hb⟩; have HB3 := Aside0.mk (below_step (w := w) (by repeat (first | (with_reducible first | exact HB2.out | refine below_set ?_ GE.out) | exact HB2.out)) hb); have M5c : Aside0 (IsCnt w3 w.heap.size 0 (fun _ => 0)) := ⟨IsCnt.below (by (with_reducible repeat (refine IsCnt.far ?_ NE5.out _)); exact M5b.out) hb⟩; have M6c : IsCnt w3 (w.heap.size + 1) k (cnt l0 k) := IsCnt.below (by (with_reducible repeat (refine IsCnt.far ?_ NE6.out _)); exact M6b.out) hb; obtain ⟨D6, hD6, hf6⟩ := M6c; obtain ⟨c6, hrun6, hat6, hc6⟩ := hD6.lookup_int keyLaw Tryd.underlying45 Tryd.underlying3 (zero3 _) (key_of (Nat.le_trans (tells_size (rd_T31 l0 i)) (by decide))); have HF6 := Aside0.mk hf6; have HA6 := Aside0.mk hat6; have OW6 := Aside0.mk hD6; clear hf6 hat6 hD6 hc6 hb)
        | (at_mapUpdate; refine wpList_mapUpdate_own _ rfl _ _ _ 45 rfl 9 3 keyLaw Tryd.underlying45 _ (w.heap.size + 1) k D6 rfl OW6.out (by have := HL.out; unfold maxLen; omega) _ _ _ rfl rfl (key_of (Nat.le_trans (tells_size (rd_T31 l0 i)) (by decide))) _ [] (plainElem_int Tryd.underlying3 (wrap64_wf _)) ?_; intro w4 hown hgrow; have M6d := Aside0.mk (show IsCnt w4 (w.heap.size + 1) (k + 1) (cnt l0 (k + 1)) from ⟨_, hown, put_step i KI.out.1 hk HL.out OW6.out.isMap HF6.out HA6.out⟩); have M5d := Aside0.mk (M5c.out.kept hgrow (by simp)); have HB4 := Aside0.mk (Below.grown HB3.out hgrow (below_size HB3.out) (fun q e => by cases e; omega)); clear hown hgrow))
      go_roundg g'
      case measure => omega
      case rel => exact ⟨wrap64 (i + 1), k + 1, rfl, ⟨by have := KI.out.1; have := HL.out; unfold wrap64; omega, by have := KI.out.2; omega⟩, M5d, M6d, HB4⟩
    · obtain rfl : k = l0.length := by have := KI.out; omega
      have q1b : decide (i < (l0.length : Int)) = false := decide_eq_false (by have := KI.out; omega)
      have K1 := KI.out.1
      clear KI
      go_wp2
      clear q1b K1
      go_loopg [2, 32] l0.length (fun gf v2 v32 wx => ∃ (i : Int) (k : Nat) (out : List S31), v32 = .int .i64 i ∧ Aside0 (i = (k : Int) ∧ k + gf = l0.length ∧ out.length = k) ∧ Aside0 (renameFrom l0 gf k out = (r1, r2, r3)) ∧ Aside0 (Kd.S k31 31 wx w.heap.size (fun q => q ≠ w.heap.size ∧ q ≠ (w.heap.size + 1)) v2 out) ∧ Aside0 (IsCnt wx w.heap.size k (cnt l0 k)) ∧ Aside0 (IsCnt wx (w.heap.size + 1) l0.length (cnt l0 l0.length)) ∧ Aside0 (Below w.heap.size w wx))
      case atStart => exact ⟨0, 0, [], rfl, ⟨rfl, by omega, rfl⟩, RES, ⟨Kd.S_nil _ _ _ _ _⟩, ⟨M5.out.mono (fun s _ => cnt_zero l0 s)⟩, M6, HB⟩
      case round =>
        clear RES M5 M6 HB
        obtain ⟨i, k, out, rfl, KI, RES, HS, M5, M6, HB⟩ := hrel
        by_cases hk : k < l0.length
        · obtain ⟨g', rfl⟩ : ∃ g', gk = g' + 1 := ⟨gk - 1, by have := KI.out; omega⟩
          obtain ⟨ad1, A1, c1, e1, hx0, hx1, hx2, hx3, hx4, hx5, hx6, hl1, hi1⟩ := at_T31 HR0.out i (by have := KI.out; omega) (by have := KI.out; omega)
          cases e1
          replace hx0 := (HB.out.cell (World.block_lt_of_cell? w _ hx0)).trans hx0
          replace hx1 := (HB.out.cell (World.block_lt_of_cell? w _ hx1)).trans hx1
          replace hx2 := (HB.out.cell (World.block_lt_of_cell? w _ hx2)).trans hx2
          replace hx3 := (HB.out.cell (World.block_lt_of_cell? w _ hx3)).trans hx3
          replace hx4 := (HB.out.cell (World.block_lt_of_cell? w _ hx4)).trans hx4
          replace hx5 := (HB.out.cell (World.block_lt_of_cell? w _ hx5)).trans hx5
          replace hx6 := (HB.out.cell (World.block_lt_of_cell? w _ hx6)).trans hx6
          have HRx := Aside0.mk hi1
          have HCx := Aside0.mk hl1
          clear hi1 hl1
          have p1 : (0 ≤ (i : Int)) = True := eq_true (by have := KI.out; omega)
          have q1 : (i < (l0.length : Int)) = True := eq_true (by have := KI.out; omega)
          have q1b : decide (i < (l0.length : Int)) = true := decide_eq_true (by have := KI.out; omega)
          have p1b : decide ((0 : Int) ≤ i) = true := decide_eq_true (by have := KI.out; omega)
          have hmem : (rd_T31 l0 i) ∈ l0 := by rw [KI.out.1, show rd_T31 l0 (k : Int) = l0[k] by simp [rd_T31, List.getD, List.getElem?_eq_getElem hk]]; exact List.getElem_mem hk
          have hokx := of_decide_eq_true (List.all_eq_true.1 OK.out _ hmem)
          clear hmem
          have OKX := Aside0.mk hokx
          clear hokx
          have hone : oneB l0 k = oneB l0 k := rfl
          rw [show oneB l0 k = _ from rfl] at hone
          clear hone
          have RES2 := RES.out
          simp only [renameFrom] at RES2
          have ek : (k : Int) = i := KI.out.1.symm
          have o1 : oneB l0 k = (if (tellsB (rd_T31 l0 i)).size ≠ 0 then some { (rd_T31 l0 i) with f3 := nameB (tellsB (rd_T31 l0 i)) (cnt l0 k (tellsB (rd_T31 l0 i))) } else if (rd_T31 l0 i).f0 = 1 then (turnB l0 k (rd_T31 l0 i).f3).map fun s => { (rd_T31 l0 i) with f3 := s } else if (rd_T31 l0 i).f0 = 3 then (turnB l0 k (rd_T31 l0 i).f3).bind fun s => (turnB l0 k (rd_T31 l0 i).f4).map fun t => { (rd_T31 l0 i) with f3 := s, f4 := t } else some (rd_T31 l0 i)) := by unfold oneB; rw [ek]
          rw [ek] at RES2
          clear ek RES
          by_cases hT0 : (tellsB (rd_T31 l0 i)).size ≠ 0
          · rw [if_pos hT0] at o1
            rw [o1] at RES2
            have RES3 := Aside0.mk RES2
            clear RES2 o1
            have hnl : ¬ (tellsB (rd_T31 l0 i)).toList = [] := by rw [ByteArray.toList_eq]; intro h_; exact hT0 (by have := congrArg List.length h_; rw [Array.length_toList] at this; exact this)
            have t0 : ((tellsB (rd_T31 l0 i)).toList == ([] : List UInt8)) = false := by simpa using hnl
            have t1 : ((tellsB (rd_T31 l0 i)).toList != ([] : List UInt8)) = true := by simpa using hnl
            have t2 : (tellsB (rd_T31 l0 i)).toList.isEmpty = false := by simpa using hnl
            clear hnl
            have T9 := tells_size (rd_T31 l0 i)
            have hcb := cnt_bound l0 k (tellsB (rd_T31 l0 i))
            have hsz : (tellsB (rd_T31 l0 i)).size ≤ maxLen := Nat.le_trans T9 (by decide)
            have tkN : True := trivial
            go_wp2_with (first
              | ((with_reducible refine gate_dst (N := 10) rfl ?_); refine box_event ?hg (N := 10) ?hd (cs := #[.int .u8 0, .slice none 0 0, .int .u8 0, .string (⟨#[]⟩ : ByteArray), .string (⟨#[]⟩ : ByteArray), .int .i64 0, .int .i64 0]) (t := 31) ?hr ?_; (case hd => rfl); (case hg => rfl); (case hr => first | (go_simp; done) | (go_simp; rfl)); intro g1 hg w2 hbox hb; have HB2 := Aside0.mk (below_step HB.out hb); have GE := Aside0.mk (show w.heap.size ≤ g1 by rw [hg]; exact below_size HB.out); have NE5 := Aside0.mk (show w.heap.size ≠ g1 by rw [hg]; exact Nat.ne_of_lt M5.out.lt); have NE6 := Aside0.mk (show (w.heap.size + 1) ≠ g1 by rw [hg]; exact Nat.ne_of_lt M6.out.lt); have M5b := Aside0.mk (M5.out.below hb); have M6b := Aside0.mk (M6.out.below hb); have HSb := Aside0.mk (Kd.S_below (Kd.S_elderB HS.out g1 (Nat.le_of_eq hg.symm)) hb); have BK := Aside0.mk hbox; clear hb hbox hg; have hcz2_0 : w2.cell? ⟨g1, 0, none⟩ = some (.int .u8 0) := (blk_cell BK.out 0).trans rfl; have hcz2_1 : w2.cell? ⟨g1, 1, none⟩ = some (.slice none 0 0) := (blk_cell BK.out 1).trans rfl; have hcz2_2 : w2.cell? ⟨g1, 2, none⟩ = some (.int .u8 0) := (blk_cell BK.out 2).trans rfl; have hcz2_3 : w2.cell? ⟨g1, 3, none⟩ = some (.string (⟨#[]⟩ : ByteArray)) := (blk_cell BK.out 3).trans rfl; have hcz2_4 : w2.cell? ⟨g1, 4, none⟩ = some (.string (⟨#[]⟩ : ByteArray)) := (blk_cell BK.out 4).trans rfl; have hcz2_5 : w2.cell? ⟨g1, 5, none⟩ = some (.int .i64 0) := (blk_cell BK.out 5).trans rfl; have hcz2_6 : w2.cell? ⟨g1, 6, none⟩ = some (.int .i64 0) := (blk_cell BK.out 6).trans rfl; have hfz2_0 := blk_frozen BK.out 0; have hfz2_1 := blk_frozen BK.out 1; have hfz2_2 := blk_frozen BK.out 2; have hfz2_3 := blk_frozen BK.out 3; have hfz2_4 := blk_frozen BK.out 4; have hfz2_5 := blk_frozen BK.out 5; have hfz2_6 := blk_frozen BK.out 6)
              | (go_at_call 20; (refine (clone_calls A1 c1 (rd_T31 l0 i).f1 _ ?s1 ?s2).mono ?_); (case s1 => exact Kd.C_below HRx.out (by repeat (first | (with_reducible first | exact HB2.out | refine below_set ?_ GE.out) | exact HB2.out))); (case s2 => exact OKX.out.2.2); rintro e w3 ⟨v1, rfl, hcl, hb⟩; obtain ⟨Ao, co, eo⟩ := Kd.R_slice hcl; subst eo; have S3 : Aside0 (St w w3 g1 w.heap.size (w.heap.size + 1) k l0.length (cnt l0 k) (cnt l0 l0.length) u2 (.slice Ao (rd_T31 l0 i).f1.length co) out (rd_T31 l0 i).f1 #[.int .u8 (rd_T31 l0 i).f0, .slice A1 (rd_T31 l0 i).f1.length c1, .int .u8 (rd_T31 l0 i).f2, .string (rd_T31 l0 i).f3, .string (rd_T31 l0 i).f4, .int .i64 (rd_T31 l0 i).f5, .int .i64 (rd_T31 l0 i).f6]) := ⟨St.made (by (with_reducible repeat (refine Kd.S_far ?_ (fun _ hk => hk.2) _)); exact HSb.out) (by (with_reducible repeat (refine IsCnt.far ?_ NE5.out _)); exact M5b.out) (by (with_reducible repeat (refine IsCnt.far ?_ NE6.out _)); exact M6b.out) GE.out NE5.out NE6.out (by repeat (first | (with_reducible first | exact HB2.out | refine below_set ?_ GE.out) | exact HB2.out)) (blk_put (cs' := #[.int .u8 (rd_T31 l0 i).f0, .slice A1 (rd_T31 l0 i).f1.length c1, .int .u8 (rd_T31 l0 i).f2, .string (rd_T31 l0 i).f3, .string (rd_T31 l0 i).f4, .int .i64 (rd_T31 l0 i).f5, .int .i64 (rd_T31 l0 i).f6]) (blk_put (cs' := #[.int .u8 (rd_T31 l0 i).f0, .slice A1 (rd_T31 l0 i).f1.length c1, .int .u8 (rd_T31 l0 i).f2, .string (rd_T31 l0 i).f3, .string (rd_T31 l0 i).f4, .int .i64 (rd_T31 l0 i).f5, .int .i64 0]) (blk_put (cs' := #[.int .u8 (rd_T31 l0 i).f0, .slice A1 (rd_T31 l0 i).f1.length c1, .int .u8 (rd_T31 l0 i).f2, .string (rd_T31 l0 i).f3, .string (rd_T31 l0 i).f4, .int .i64 0, .int .i64 0]) (blk_put (cs' := #[.int .u8 (rd_T31 l0 i).f0, .slice A1 (rd_T31 l0 i).f1.length c1, .int .u8 (rd_T31 l0 i).f2, .string (rd_T31 l0 i).f3, .string (⟨#[]⟩ : ByteArray), .int .i64 0, .int .i64 0]) (blk_put (cs' := #[.int .u8 (rd_T31 l0 i).f0, .slice A1 (rd_T31 l0 i).f1.length c1, .int .u8 (rd_T31 l0 i).f2, .string (⟨#[]⟩ : ByteArray), .string (⟨#[]⟩ : ByteArray), .int .i64 0, .int .i64 0]) (blk_put (cs' := #[.int .u8 (rd_T31 l0 i).f0, .slice A1 (rd_T31 l0 i).f1.length c1, .int .u8 0, .string (⟨#[]⟩ : ByteArray), .string (⟨#[]⟩ : ByteArray), .int .i64 0, .int .i64 0]) (blk_put (cs' := #[.int .u8 (rd_T31 l0 i).f0, .slice none 0 0, .int .u8 0, .string (⟨#[]⟩ : ByteArray), .string (⟨#[]⟩ : ByteArray), .int .i64 0, .int .i64 0]) BK.out 0 (.int .u8 (rd_T31 l0 i).f0) rfl) 1 (.slice A1 (rd_T31 l0 i).f1.length c1) rfl) 2 (.int .u8 (rd_T31 l0 i).f2) rfl) 3 (.string (rd_T31 l0 i).f3) rfl) 4 (.string (rd_T31 l0 i).f4) rfl) 5 (.int .i64 (rd_T31 l0 i).f5) rfl) 6 (.int .i64 (rd_T31 l0 i).f6) rfl) hcl hb⟩; clear hcl hb; have hcz3_0 : w3.cell? ⟨g1, 0, none⟩ = some (.int .u8 (rd_T31 l0 i).f0) := (blk_cell S3.out.bk 0).trans rfl; have hcz3_1 : w3.cell? ⟨g1, 1, none⟩ = some (.slice A1 (rd_T31 l0 i).f1.length c1) := (blk_cell S3.out.bk 1).trans rfl; have hcz3_2 : w3.cell? ⟨g1, 2, none⟩ = some (.int .u8 (rd_T31 l0 i).f2) := (blk_cell S3.out.bk 2).trans rfl; have hcz3_3 : w3.cell? ⟨g1, 3, none⟩ = some (.string (rd_T31 l0 i).f3) := (blk_cell S3.out.bk 3).trans rfl; have hcz3_4 : w3.cell? ⟨g1, 4, none⟩ = some (.string (rd_T31 l0 i).f4) := (blk_cell S3.out.bk 4).trans rfl; have hcz3_5 : w3.cell? ⟨g1, 5, none⟩ = some (.int .i64 (rd_T31 l0 i).f5) := (blk_cell S3.out.bk 5).trans rfl; have hcz3_6 : w3.cell? ⟨g1, 6, none⟩ = some (.int .i64 (rd_T31 l0 i).f6) := (blk_cell S3.out.bk 6).trans rfl; have hfz3_0 := blk_frozen S3.out.bk 0; have hfz3_1 := blk_frozen S3.out.bk 1; have hfz3_2 := blk_frozen S3.out.bk 2; have hfz3_3 := blk_frozen S3.out.bk 3; have hfz3_4 := blk_frozen S3.out.bk 4; have hfz3_5 := blk_frozen S3.out.bk 5; have hfz3_6 := blk_frozen S3.out.bk 6)
              | (go_at_call 19; (refine (labels_tells.calls (rd_T31 l0 i).f0 Ao co (rd_T31 l0 i).f1 (rd_T31 l0 i).f2 (rd_T31 l0 i).f3 (rd_T31 l0 i).f4 (rd_T31 l0 i).f5 (rd_T31 l0 i).f6 (tellsB (rd_T31 l0 i)) _ ?s1 ?s2 (tells_eq (rd_T31 l0 i))).mono ?_); (case s1 => exact (Kd.R_reads' (S3.out.set 1 (.slice Ao (rd_T31 l0 i).f1.length co)).cl).2.2); (case s2 => exact (Kd.R_reads' (S3.out.set 1 (.slice Ao (rd_T31 l0 i).f1.length co)).cl).2.1); rintro e w4 ⟨rfl, hb⟩; have S4 : Aside0 (St w w4 g1 w.heap.size (w.heap.size + 1) k l0.length (cnt l0 k) (cnt l0 l0.length) u2 (.slice Ao (rd_T31 l0 i).f1.length co) out (rd_T31 l0 i).f1 #[.int .u8 (rd_T31 l0 i).f0, .slice Ao (rd_T31 l0 i).f1.length co, .int .u8 (rd_T31 l0 i).f2, .string (rd_T31 l0 i).f3, .string (rd_T31 l0 i).f4, .int .i64 (rd_T31 l0 i).f5, .int .i64 (rd_T31 l0 i).f6]) := ⟨(S3.out.set 1 (.slice Ao (rd_T31 l0 i).f1.length co)).below hb⟩; clear hb; have hcz4_0 : w4.cell? ⟨g1, 0, none⟩ = some (.int .u8 (rd_T31 l0 i).f0) := (blk_cell S4.out.bk 0).trans rfl; have hcz4_1 : w4.cell? ⟨g1, 1, none⟩ = some (.slice Ao (rd_T31 l0 i).f1.length co) := (blk_cell S4.out.bk 1).trans rfl; have hcz4_2 : w4.cell? ⟨g1, 2, none⟩ = some (.int .u8 (rd_T31 l0 i).f2) := (blk_cell S4.out.bk 2).trans rfl; have hcz4_3 : w4.cell? ⟨g1, 3, none⟩ = some (.string (rd_T31 l0 i).f3) := (blk_cell S4.out.bk 3).trans rfl; have hcz4_4 : w4.cell? ⟨g1, 4, none⟩ = some (.string (rd_T31 l0 i).f4) := (blk_cell S4.out.bk 4).trans rfl; have hcz4_5 : w4.cell? ⟨g1, 5, none⟩ = some (.int .i64 (rd_T31 l0 i).f5) := (blk_cell S4.out.bk 5).trans rfl; have hcz4_6 : w4.cell? ⟨g1, 6, none⟩ = some (.int .i64 (rd_T31 l0 i).f6) := (blk_cell S4.out.bk 6).trans rfl; have hfz4_0 := blk_frozen S4.out.bk 0; have hfz4_1 := blk_frozen S4.out.bk 1; have hfz4_2 := blk_frozen S4.out.bk 2; have hfz4_3 := blk_frozen S4.out.bk 3; have hfz4_4 := blk_frozen S4.out.bk 4; have hfz4_5 := blk_frozen S4.out.bk 5; have hfz4_6 := blk_frozen S4.out.bk 6; have l5a := S4.out.m5.look hT0 hsz)
              | (have _t := tkN; go_at_call 21; (refine (labels_name.calls (tellsB (rd_T31 l0 i)) (cnt l0 k (tellsB (rd_T31 l0 i))) (nameB (tellsB (rd_T31 l0 i)) (cnt l0 k (tellsB (rd_T31 l0 i)))) _ (Lib.tabBelow_of_tabIs HT.out _ S4.out.bel) (by unfold labels_name.f; rw [if_pos ⟨by omega, by have := HL.out; omega, by have := HL.out; omega⟩])).mono ?_); rintro e w5 ⟨rfl, hb⟩; clear tkN; have S5 : Aside0 (St w w5 g1 w.heap.size (w.heap.size + 1) k l0.length (cnt l0 k) (cnt l0 l0.length) u2 (.slice Ao (rd_T31 l0 i).f1.length co) out (rd_T31 l0 i).f1 #[.int .u8 (rd_T31 l0 i).f0, .slice Ao (rd_T31 l0 i).f1.length co, .int .u8 (rd_T31 l0 i).f2, .string (rd_T31 l0 i).f3, .string (rd_T31 l0 i).f4, .int .i64 (rd_T31 l0 i).f5, .int .i64 (rd_T31 l0 i).f6]) := ⟨S4.out.below hb⟩; clear hb; have S6 : Aside0 (St w (w5.setCell ⟨g1, 3, none⟩ (.string (nameB (tellsB (rd_T31 l0 i)) (cnt l0 k (tellsB (rd_T31 l0 i)))))) g1 w.heap.size (w.heap.size + 1) k l0.length (cnt l0 k) (cnt l0 l0.length) u2 (.slice Ao (rd_T31 l0 i).f1.length co) out (rd_T31 l0 i).f1 #[.int .u8 (rd_T31 l0 i).f0, .slice Ao (rd_T31 l0 i).f1.length co, .int .u8 (rd_T31 l0 i).f2, .string (nameB (tellsB (rd_T31 l0 i)) (cnt l0 k (tellsB (rd_T31 l0 i)))), .string (rd_T31 l0 i).f4, .int .i64 (rd_T31 l0 i).f5, .int .i64 (rd_T31 l0 i).f6]) := ⟨S5.out.set 3 (.string (nameB (tellsB (rd_T31 l0 i)) (cnt l0 k (tellsB (rd_T31 l0 i)))))⟩; have l5b := S6.out.m5.look hT0 hsz; obtain ⟨D5, hD5, hf5⟩ := S6.out.m5; have OW5 := Aside0.mk hD5; have HF5 := Aside0.mk hf5; clear hD5 hf5; have hcz5_0 : w5.cell? ⟨g1, 0, none⟩ = some (.int .u8 (rd_T31 l0 i).f0) := (blk_cell S5.out.bk 0).trans rfl; have hcz5_1 : w5.cell? ⟨g1, 1, none⟩ = some (.slice Ao (rd_T31 l0 i).f1.length co) := (blk_cell S5.out.bk 1).trans rfl; have hcz5_2 : w5.cell? ⟨g1, 2, none⟩ = some (.int .u8 (rd_T31 l0 i).f2) := (blk_cell S5.out.bk 2).trans rfl; have hcz5_3 : w5.cell? ⟨g1, 3, none⟩ = some (.string (rd_T31 l0 i).f3) := (blk_cell S5.out.bk 3).trans rfl; have hcz5_4 : w5.cell? ⟨g1, 4, none⟩ = some (.string (rd_T31 l0 i).f4) := (blk_cell S5.out.bk 4).trans rfl; have hcz5_5 : w5.cell? ⟨g1, 5, none⟩ = some (.int .i64 (rd_T31 l0 i).f5) := (blk_cell S5.out.bk 5).trans rfl; have hcz5_6 : w5.cell? ⟨g1, 6, none⟩ = some (.int .i64 (rd_T31 l0 i).f6) := (blk_cell S5.out.bk 6).trans rfl; have hfz5_0 := blk_frozen S5.out.bk 0; have hfz5_1 := blk_frozen S5.out.bk 1; have hfz5_2 := blk_frozen S5.out.bk 2; have hfz5_3 := blk_frozen S5.out.bk 3; have hfz5_4 := blk_frozen S5.out.bk 4; have hfz5_5 := blk_frozen S5.out.bk 5; have hfz5_6 := blk_frozen S5.out.bk 6)
              | (at_mapUpdate; refine wpList_mapUpdate_own _ rfl _ _ _ 45 rfl 9 3 keyLaw Tryd.underlying45 _ w.heap.size k D5 rfl OW5.out (by have := HL.out; unfold maxLen; omega) _ _ _ rfl rfl (key_of hsz) _ [] (plainElem_int Tryd.underlying3 (wrap64_wf _)) ?_; intro w6 hown hgrow; have S7 : Aside0 (St w w6 g1 w.heap.size (w.heap.size + 1) (k + 1) l0.length (cnt l0 (k + 1)) (cnt l0 l0.length) u2 (.slice Ao (rd_T31 l0 i).f1.length co) out (rd_T31 l0 i).f1 #[.int .u8 (rd_T31 l0 i).f0, .slice Ao (rd_T31 l0 i).f1.length co, .int .u8 (rd_T31 l0 i).f2, .string (nameB (tellsB (rd_T31 l0 i)) (cnt l0 k (tellsB (rd_T31 l0 i)))), .string (rd_T31 l0 i).f4, .int .i64 (rd_T31 l0 i).f5, .int .i64 (rd_T31 l0 i).f6]) := ⟨S6.out.put5 hgrow ⟨_, hown, put_step i KI.out.1 hk HL.out OW5.out.isMap HF5.out (HF5.out _ hT0)⟩ (by omega) (Nat.le_refl _)⟩; clear hown hgrow; have hcz7_0 : w6.cell? ⟨g1, 0, none⟩ = some (.int .u8 (rd_T31 l0 i).f0) := (blk_cell S7.out.bk 0).trans rfl; have hcz7_1 : w6.cell? ⟨g1, 1, none⟩ = some (.slice Ao (rd_T31 l0 i).f1.length co) := (blk_cell S7.out.bk 1).trans rfl; have hcz7_2 : w6.cell? ⟨g1, 2, none⟩ = some (.int .u8 (rd_T31 l0 i).f2) := (blk_cell S7.out.bk 2).trans rfl; have hcz7_3 : w6.cell? ⟨g1, 3, none⟩ = some (.string (nameB (tellsB (rd_T31 l0 i)) (cnt l0 k (tellsB (rd_T31 l0 i))))) := (blk_cell S7.out.bk 3).trans rfl; have hcz7_4 : w6.cell? ⟨g1, 4, none⟩ = some (.string (rd_T31 l0 i).f4) := (blk_cell S7.out.bk 4).trans rfl; have hcz7_5 : w6.cell? ⟨g1, 5, none⟩ = some (.int .i64 (rd_T31 l0 i).f5) := (blk_cell S7.out.bk 5).trans rfl; have hcz7_6 : w6.cell? ⟨g1, 6, none⟩ = some (.int .i64 (rd_T31 l0 i).f6) := (blk_cell S7.out.bk 6).trans rfl; have hfz7_0 := blk_frozen S7.out.bk 0; have hfz7_1 := blk_frozen S7.out.bk 1; have hfz7_2 := blk_frozen S7.out.bk 2; have hfz7_3 := blk_frozen S7.out.bk 3; have hfz7_4 := blk_frozen S7.out.bk 4; have hfz7_5 := blk_frozen S7.out.bk 5; have hfz7_6 := blk_frozen S7.out.bk 6)
              | ((with_reducible refine gate_builtin (b := .append) (xs := #[.tmp 81, .tmp 83]) rfl ?_); at_builtin; refine Kd.S_append k31 (w0 := w) w.heap.size rfl (.tmp 81) (.tmp 83) 22 31 (.agg #[(.int .u8 0), (.slice none 0 0), (.int .u8 0), (.string ⟨#[]⟩), (.string ⟨#[]⟩), (.int .i64 0), (.int .i64 0)]) 88 rfl Tryd.underlying22 info31 rfl (by decide) (by omega) u2 out (⟨(rd_T31 l0 i).f0, (rd_T31 l0 i).f1, (rd_T31 l0 i).f2, (nameB (tellsB (rd_T31 l0 i)) (cnt l0 k (tellsB (rd_T31 l0 i)))), (rd_T31 l0 i).f4, (rd_T31 l0 i).f5, (rd_T31 l0 i).f6⟩ : S31) [.int .u8 (rd_T31 l0 i).f0, .slice Ao (rd_T31 l0 i).f1.length co, .int .u8 (rd_T31 l0 i).f2, .string (nameB (tellsB (rd_T31 l0 i)) (cnt l0 k (tellsB (rd_T31 l0 i)))), .string (rd_T31 l0 i).f4, .int .i64 (rd_T31 l0 i).f5, .int .i64 (rd_T31 l0 i).f6] (fun q => q ≠ w.heap.size ∧ q ≠ (w.heap.size + 1)) (fun q => some q = (.slice Ao (rd_T31 l0 i).f1.length co : Value).ownBlock) rfl rfl ?aP ?aK ?aF ?aO ?aB ?aS ?aL ?_; (case aP => exact k31_mkM _ _ _ (⟨(rd_T31 l0 i).f0, (rd_T31 l0 i).f1, (rd_T31 l0 i).f2, (nameB (tellsB (rd_T31 l0 i)) (cnt l0 k (tellsB (rd_T31 l0 i)))), (rd_T31 l0 i).f4, (rd_T31 l0 i).f5, (rd_T31 l0 i).f6⟩ : S31) (Kd.R_tight rfl S7.out.cl)); (case aK => exact fun q hq => by have h_ := (Kd.R_apart' S7.out.cl (Kd.S_typed S7.out.row) (by decide)).1 q hq.symm; exact ⟨h_.1.2, h_.2⟩); (case aF => exact fun q hq => by have := S7.out.m5.lt; have := S7.out.m6.lt; omega); (case aO => exact Kd.S_mono S7.out.row (fun q hq => ⟨hq.1, hq.2.2⟩)); (case aB => exact S7.out.bel); (case aS => exact below_size S7.out.bel); (case aL => have := KI.out; have := HL.out; omega); intro v7 w7 ho hb hg hat; have HS7 := Aside0.mk ho; have HB7 := Aside0.mk hb; have M57 := Aside0.mk (S7.out.m5.kept hg (fun e_ => ((Kd.S_R S7.out.row).1 _ e_.symm).1.1 rfl)); have M67 := Aside0.mk (S7.out.m6.kept hg (fun e_ => ((Kd.S_R S7.out.row).1 _ e_.symm).1.2 rfl)); clear ho hb hg hat))
            go_roundg g'
            case measure => omega
            case rel => exact ⟨wrap64 (i + 1), k + 1, out ++ [(⟨(rd_T31 l0 i).f0, (rd_T31 l0 i).f1, (rd_T31 l0 i).f2, (nameB (tellsB (rd_T31 l0 i)) (cnt l0 k (tellsB (rd_T31 l0 i)))), (rd_T31 l0 i).f4, (rd_T31 l0 i).f5, (rd_T31 l0 i).f6⟩ : S31)], rfl, ⟨by have := KI.out.1; have := HL.out; unfold wrap64; omega, by have := KI.out.2; omega, by rw [List.length_append, KI.out.2.2]; rfl⟩, RES3, HS7, M57, M67, HB7⟩
          rw [if_neg hT0] at o1
          have hnl : (tellsB (rd_T31 l0 i)).toList = [] := by rw [ByteArray.toList_eq]; exact List.eq_nil_of_length_eq_zero (by rw [Array.length_toList]; exact Decidable.not_not.1 hT0)
          have t0 : ((tellsB (rd_T31 l0 i)).toList == ([] : List UInt8)) = true := by rw [hnl]; rfl
          have t1 : ((tellsB (rd_T31 l0 i)).toList != ([] : List UInt8)) = false := by rw [hnl]; rfl
          have t2 : (tellsB (rd_T31 l0 i)).toList.isEmpty = true := by rw [hnl]; rfl
          have eT : (tellsB (rd_T31 l0 i)) = ⟨#[]⟩ := data_inj (by rw [← ByteArray.toList_eq, hnl])
          clear hnl
          have CS := fun s (hs : s.size ≠ 0) => cnt_succ l0 k hk s
          by_cases hf1 : (rd_T31 l0 i).f0 = 1
          · rw [if_pos hf1] at o1
            have kb1_0 : ((rd_T31 l0 i).f0 == 1) = true := beq_iff_eq.mpr hf1
            clear hf1
            have tk3 : True := trivial
            cases ht : turnB l0 k (rd_T31 l0 i).f3 with
            | none =>
              rw [ht] at o1
              rw [o1] at RES2
              simp only [Option.map_none, Prod.mk.injEq] at RES2
              obtain ⟨rfl, rfl, rfl⟩ := RES2
              clear o1
              go_wp2_with (first
                | ((with_reducible refine gate_dst (N := 10) rfl ?_); refine box_event ?hg (N := 10) ?hd (cs := #[.int .u8 0, .slice none 0 0, .int .u8 0, .string (⟨#[]⟩ : ByteArray), .string (⟨#[]⟩ : ByteArray), .int .i64 0, .int .i64 0]) (t := 31) ?hr ?_; (case hd => rfl); (case hg => rfl); (case hr => first | (go_simp; done) | (go_simp; rfl)); intro g1 hg w2 hbox hb; have HB2 := Aside0.mk (below_step HB.out hb); have GE := Aside0.mk (show w.heap.size ≤ g1 by rw [hg]; exact below_size HB.out); have NE5 := Aside0.mk (show w.heap.size ≠ g1 by rw [hg]; exact Nat.ne_of_lt M5.out.lt); have NE6 := Aside0.mk (show (w.heap.size + 1) ≠ g1 by rw [hg]; exact Nat.ne_of_lt M6.out.lt); have M5b := Aside0.mk (M5.out.below hb); have M6b := Aside0.mk (M6.out.below hb); have HSb := Aside0.mk (Kd.S_below (Kd.S_elderB HS.out g1 (Nat.le_of_eq hg.symm)) hb); have BK := Aside0.mk hbox; clear hb hbox hg; have hcz2_0 : w2.cell? ⟨g1, 0, none⟩ = some (.int .u8 0) := (blk_cell BK.out 0).trans rfl; have hcz2_1 : w2.cell? ⟨g1, 1, none⟩ = some (.slice none 0 0) := (blk_cell BK.out 1).trans rfl; have hcz2_2 : w2.cell? ⟨g1, 2, none⟩ = some (.int .u8 0) := (blk_cell BK.out 2).trans rfl; have hcz2_3 : w2.cell? ⟨g1, 3, none⟩ = some (.string (⟨#[]⟩ : ByteArray)) := (blk_cell BK.out 3).trans rfl; have hcz2_4 : w2.cell? ⟨g1, 4, none⟩ = some (.string (⟨#[]⟩ : ByteArray)) := (blk_cell BK.out 4).trans rfl; have hcz2_5 : w2.cell? ⟨g1, 5, none⟩ = some (.int .i64 0) := (blk_cell BK.out 5).trans rfl; have hcz2_6 : w2.cell? ⟨g1, 6, none⟩ = some (.int .i64 0) := (blk_cell BK.out 6).trans rfl; have hfz2_0 := blk_frozen BK.out 0; have hfz2_1 := blk_frozen BK.out 1; have hfz2_2 := blk_frozen BK.out 2; have hfz2_3 := blk_frozen BK.out 3; have hfz2_4 := blk_frozen BK.out 4; have hfz2_5 := blk_frozen BK.out 5; have hfz2_6 := blk_frozen BK.out 6)
                | (go_at_call 20; (refine (clone_calls A1 c1 (rd_T31 l0 i).f1 _ ?s1 ?s2).mono ?_); (case s1 => exact Kd.C_below HRx.out (by repeat (first | (with_reducible first | exact HB2.out | refine below_set ?_ GE.out) | exact HB2.out))); (case s2 => exact OKX.out.2.2); rintro e w3 ⟨v1, rfl, hcl, hb⟩; obtain ⟨Ao, co, eo⟩ := Kd.R_slice hcl; subst eo; have S3 : Aside0 (St w w3 g1 w.heap.size (w.heap.size + 1) k l0.length (cnt l0 k) (cnt l0 l0.length) u2 (.slice Ao (rd_T31 l0 i).f1.length co) out (rd_T31 l0 i).f1 #[.int .u8 (rd_T31 l0 i).f0, .slice A1 (rd_T31 l0 i).f1.length c1, .int .u8 (rd_T31 l0 i).f2, .string (rd_T31 l0 i).f3, .string (rd_T31 l0 i).f4, .int .i64 (rd_T31 l0 i).f5, .int .i64 (rd_T31 l0 i).f6]) := ⟨St.made (by (with_reducible repeat (refine Kd.S_far ?_ (fun _ hk => hk.2) _)); exact HSb.out) (by (with_reducible repeat (refine IsCnt.far ?_ NE5.out _)); exact M5b.out) (by (with_reducible repeat (refine IsCnt.far ?_ NE6.out _)); exact M6b.out) GE.out NE5.out NE6.out (by repeat (first | (with_reducible first | exact HB2.out | refine below_set ?_ GE.out) | exact HB2.out)) (blk_put (cs' := #[.int .u8 (rd_T31 l0 i).f0, .slice A1 (rd_T31 l0 i).f1.length c1, .int .u8 (rd_T31 l0 i).f2, .string (rd_T31 l0 i).f3, .string (rd_T31 l0 i).f4, .int .i64 (rd_T31 l0 i).f5, .int .i64 (rd_T31 l0 i).f6]) (blk_put (cs' := #[.int .u8 (rd_T31 l0 i).f0, .slice A1 (rd_T31 l0 i).f1.length c1, .int .u8 (rd_T31 l0 i).f2, .string (rd_T31 l0 i).f3, .string (rd_T31 l0 i).f4, .int .i64 (rd_T31 l0 i).f5, .int .i64 0]) (blk_put (cs' := #[.int .u8 (rd_T31 l0 i).f0, .slice A1 (rd_T31 l0 i).f1.length c1, .int .u8 (rd_T31 l0 i).f2, .string (rd_T31 l0 i).f3, .string (rd_T31 l0 i).f4, .int .i64 0, .int .i64 0]) (blk_put (cs' := #[.int .u8 (rd_T31 l0 i).f0, .slice A1 (rd_T31 l0 i).f1.length c1, .int .u8 (rd_T31 l0 i).f2, .string (rd_T31 l0 i).f3, .string (⟨#[]⟩ : ByteArray), .int .i64 0, .int .i64 0]) (blk_put (cs' := #[.int .u8 (rd_T31 l0 i).f0, .slice A1 (rd_T31 l0 i).f1.length c1, .int .u8 (rd_T31 l0 i).f2, .string (⟨#[]⟩ : ByteArray), .string (⟨#[]⟩ : ByteArray), .int .i64 0, .int .i64 0]) (blk_put (cs' := #[.int .u8 (rd_T31 l0 i).f0, .slice A1 (rd_T31 l0 i).f1.length c1, .int .u8 0, .string (⟨#[]⟩ : ByteArray), .string (⟨#[]⟩ : ByteArray), .int .i64 0, .int .i64 0]) (blk_put (cs' := #[.int .u8 (rd_T31 l0 i).f0, .slice none 0 0, .int .u8 0, .string (⟨#[]⟩ : ByteArray), .string (⟨#[]⟩ : ByteArray), .int .i64 0, .int .i64 0]) BK.out 0 (.int .u8 (rd_T31 l0 i).f0) rfl) 1 (.slice A1 (rd_T31 l0 i).f1.length c1) rfl) 2 (.int .u8 (rd_T31 l0 i).f2) rfl) 3 (.string (rd_T31 l0 i).f3) rfl) 4 (.string (rd_T31 l0 i).f4) rfl) 5 (.int .i64 (rd_T31 l0 i).f5) rfl) 6 (.int .i64 (rd_T31 l0 i).f6) rfl) hcl hb⟩; clear hcl hb; have hcz3_0 : w3.cell? ⟨g1, 0, none⟩ = some (.int .u8 (rd_T31 l0 i).f0) := (blk_cell S3.out.bk 0).trans rfl; have hcz3_1 : w3.cell? ⟨g1, 1, none⟩ = some (.slice A1 (rd_T31 l0 i).f1.length c1) := (blk_cell S3.out.bk 1).trans rfl; have hcz3_2 : w3.cell? ⟨g1, 2, none⟩ = some (.int .u8 (rd_T31 l0 i).f2) := (blk_cell S3.out.bk 2).trans rfl; have hcz3_3 : w3.cell? ⟨g1, 3, none⟩ = some (.string (rd_T31 l0 i).f3) := (blk_cell S3.out.bk 3).trans rfl; have hcz3_4 : w3.cell? ⟨g1, 4, none⟩ = some (.string (rd_T31 l0 i).f4) := (blk_cell S3.out.bk 4).trans rfl; have hcz3_5 : w3.cell? ⟨g1, 5, none⟩ = some (.int .i64 (rd_T31 l0 i).f5) := (blk_cell S3.out.bk 5).trans rfl; have hcz3_6 : w3.cell? ⟨g1, 6, none⟩ = some (.int .i64 (rd_T31 l0 i).f6) := (blk_cell S3.out.bk 6).trans rfl; have hfz3_0 := blk_frozen S3.out.bk 0; have hfz3_1 := blk_frozen S3.out.bk 1; have hfz3_2 := blk_frozen S3.out.bk 2; have hfz3_3 := blk_frozen S3.out.bk 3; have hfz3_4 := blk_frozen S3.out.bk 4; have hfz3_5 := blk_frozen S3.out.bk 5; have hfz3_6 := blk_frozen S3.out.bk 6)
                | (go_at_call 19; (refine (labels_tells.calls (rd_T31 l0 i).f0 Ao co (rd_T31 l0 i).f1 (rd_T31 l0 i).f2 (rd_T31 l0 i).f3 (rd_T31 l0 i).f4 (rd_T31 l0 i).f5 (rd_T31 l0 i).f6 (tellsB (rd_T31 l0 i)) _ ?s1 ?s2 (tells_eq (rd_T31 l0 i))).mono ?_); (case s1 => exact (Kd.R_reads' (S3.out.set 1 (.slice Ao (rd_T31 l0 i).f1.length co)).cl).2.2); (case s2 => exact (Kd.R_reads' (S3.out.set 1 (.slice Ao (rd_T31 l0 i).f1.length co)).cl).2.1); rintro e w4 ⟨rfl, hb⟩; have S4 : Aside0 (St w w4 g1 w.heap.size (w.heap.size + 1) k l0.length (cnt l0 k) (cnt l0 l0.length) u2 (.slice Ao (rd_T31 l0 i).f1.length co) out (rd_T31 l0 i).f1 #[.int .u8 (rd_T31 l0 i).f0, .slice Ao (rd_T31 l0 i).f1.length co, .int .u8 (rd_T31 l0 i).f2, .string (rd_T31 l0 i).f3, .string (rd_T31 l0 i).f4, .int .i64 (rd_T31 l0 i).f5, .int .i64 (rd_T31 l0 i).f6]) := ⟨(S3.out.set 1 (.slice Ao (rd_T31 l0 i).f1.length co)).below hb⟩; clear hb; have hcz4_0 : w4.cell? ⟨g1, 0, none⟩ = some (.int .u8 (rd_T31 l0 i).f0) := (blk_cell S4.out.bk 0).trans rfl; have hcz4_1 : w4.cell? ⟨g1, 1, none⟩ = some (.slice Ao (rd_T31 l0 i).f1.length co) := (blk_cell S4.out.bk 1).trans rfl; have hcz4_2 : w4.cell? ⟨g1, 2, none⟩ = some (.int .u8 (rd_T31 l0 i).f2) := (blk_cell S4.out.bk 2).trans rfl; have hcz4_3 : w4.cell? ⟨g1, 3, none⟩ = some (.string (rd_T31 l0 i).f3) := (blk_cell S4.out.bk 3).trans rfl; have hcz4_4 : w4.cell? ⟨g1, 4, none⟩ = some (.string (rd_T31 l0 i).f4) := (blk_cell S4.out.bk 4).trans rfl; have hcz4_5 : w4.cell? ⟨g1, 5, none⟩ = some (.int .i64 (rd_T31 l0 i).f5) := (blk_cell S4.out.bk 5).trans rfl; have hcz4_6 : w4.cell? ⟨g1, 6, none⟩ = some (.int .i64 (rd_T31 l0 i).f6) := (blk_cell S4.out.bk 6).trans rfl; have hfz4_0 := blk_frozen S4.out.bk 0; have hfz4_1 := blk_frozen S4.out.bk 1; have hfz4_2 := blk_frozen S4.out.bk 2; have hfz4_3 := blk_frozen S4.out.bk 3; have hfz4_4 := blk_frozen S4.out.bk 4; have hfz4_5 := blk_frozen S4.out.bk 5; have hfz4_6 := blk_frozen S4.out.bk 6)
                | (have _t := tk3; go_at_call 22; (refine (turn_calls l0 k _ g1 3 #[.int .u8 (rd_T31 l0 i).f0, .slice Ao (rd_T31 l0 i).f1.length co, .int .u8 (rd_T31 l0 i).f2, .string (rd_T31 l0 i).f3, .string (rd_T31 l0 i).f4, .int .i64 (rd_T31 l0 i).f5, .int .i64 (rd_T31 l0 i).f6] (rd_T31 l0 i).f3 w.heap.size (w.heap.size + 1) k l0.length (Lib.tabBelow_of_tabIs HT.out _ S4.out.bel) S4.out.bk rfl OKX.out.1 HL.out S4.out.m5 S4.out.m6).mono ?_); intro e w5 hp; clear tk3; rw [ht] at hp; obtain ⟨rfl, hst⟩ := turn_no S4.out hp; clear hp; have S5 := Aside0.mk hst; clear hst))
              go_ret3
              exact ⟨_, rfl, Kd.S_nil _ _ _ _ _, S5.out.bel⟩
            | some t =>
              rw [ht] at o1
              rw [o1] at RES2
              have RES3 := Aside0.mk RES2
              clear RES2 o1
              go_wp2_with (first
                | ((with_reducible refine gate_dst (N := 10) rfl ?_); refine box_event ?hg (N := 10) ?hd (cs := #[.int .u8 0, .slice none 0 0, .int .u8 0, .string (⟨#[]⟩ : ByteArray), .string (⟨#[]⟩ : ByteArray), .int .i64 0, .int .i64 0]) (t := 31) ?hr ?_; (case hd => rfl); (case hg => rfl); (case hr => first | (go_simp; done) | (go_simp; rfl)); intro g1 hg w2 hbox hb; have HB2 := Aside0.mk (below_step HB.out hb); have GE := Aside0.mk (show w.heap.size ≤ g1 by rw [hg]; exact below_size HB.out); have NE5 := Aside0.mk (show w.heap.size ≠ g1 by rw [hg]; exact Nat.ne_of_lt M5.out.lt); have NE6 := Aside0.mk (show (w.heap.size + 1) ≠ g1 by rw [hg]; exact Nat.ne_of_lt M6.out.lt); have M5b := Aside0.mk (M5.out.below hb); have M6b := Aside0.mk (M6.out.below hb); have HSb := Aside0.mk (Kd.S_below (Kd.S_elderB HS.out g1 (Nat.le_of_eq hg.symm)) hb); have BK := Aside0.mk hbox; clear hb hbox hg; have hcz2_0 : w2.cell? ⟨g1, 0, none⟩ = some (.int .u8 0) := (blk_cell BK.out 0).trans rfl; have hcz2_1 : w2.cell? ⟨g1, 1, none⟩ = some (.slice none 0 0) := (blk_cell BK.out 1).trans rfl; have hcz2_2 : w2.cell? ⟨g1, 2, none⟩ = some (.int .u8 0) := (blk_cell BK.out 2).trans rfl; have hcz2_3 : w2.cell? ⟨g1, 3, none⟩ = some (.string (⟨#[]⟩ : ByteArray)) := (blk_cell BK.out 3).trans rfl; have hcz2_4 : w2.cell? ⟨g1, 4, none⟩ = some (.string (⟨#[]⟩ : ByteArray)) := (blk_cell BK.out 4).trans rfl; have hcz2_5 : w2.cell? ⟨g1, 5, none⟩ = some (.int .i64 0) := (blk_cell BK.out 5).trans rfl; have hcz2_6 : w2.cell? ⟨g1, 6, none⟩ = some (.int .i64 0) := (blk_cell BK.out 6).trans rfl; have hfz2_0 := blk_frozen BK.out 0; have hfz2_1 := blk_frozen BK.out 1; have hfz2_2 := blk_frozen BK.out 2; have hfz2_3 := blk_frozen BK.out 3; have hfz2_4 := blk_frozen BK.out 4; have hfz2_5 := blk_frozen BK.out 5; have hfz2_6 := blk_frozen BK.out 6)
                | (go_at_call 20; (refine (clone_calls A1 c1 (rd_T31 l0 i).f1 _ ?s1 ?s2).mono ?_); (case s1 => exact Kd.C_below HRx.out (by repeat (first | (with_reducible first | exact HB2.out | refine below_set ?_ GE.out) | exact HB2.out))); (case s2 => exact OKX.out.2.2); rintro e w3 ⟨v1, rfl, hcl, hb⟩; obtain ⟨Ao, co, eo⟩ := Kd.R_slice hcl; subst eo; have S3 : Aside0 (St w w3 g1 w.heap.size (w.heap.size + 1) k l0.length (cnt l0 k) (cnt l0 l0.length) u2 (.slice Ao (rd_T31 l0 i).f1.length co) out (rd_T31 l0 i).f1 #[.int .u8 (rd_T31 l0 i).f0, .slice A1 (rd_T31 l0 i).f1.length c1, .int .u8 (rd_T31 l0 i).f2, .string (rd_T31 l0 i).f3, .string (rd_T31 l0 i).f4, .int .i64 (rd_T31 l0 i).f5, .int .i64 (rd_T31 l0 i).f6]) := ⟨St.made (by (with_reducible repeat (refine Kd.S_far ?_ (fun _ hk => hk.2) _)); exact HSb.out) (by (with_reducible repeat (refine IsCnt.far ?_ NE5.out _)); exact M5b.out) (by (with_reducible repeat (refine IsCnt.far ?_ NE6.out _)); exact M6b.out) GE.out NE5.out NE6.out (by repeat (first | (with_reducible first | exact HB2.out | refine below_set ?_ GE.out) | exact HB2.out)) (blk_put (cs' := #[.int .u8 (rd_T31 l0 i).f0, .slice A1 (rd_T31 l0 i).f1.length c1, .int .u8 (rd_T31 l0 i).f2, .string (rd_T31 l0 i).f3, .string (rd_T31 l0 i).f4, .int .i64 (rd_T31 l0 i).f5, .int .i64 (rd_T31 l0 i).f6]) (blk_put (cs' := #[.int .u8 (rd_T31 l0 i).f0, .slice A1 (rd_T31 l0 i).f1.length c1, .int .u8 (rd_T31 l0 i).f2, .string (rd_T31 l0 i).f3, .string (rd_T31 l0 i).f4, .int .i64 (rd_T31 l0 i).f5, .int .i64 0]) (blk_put (cs' := #[.int .u8 (rd_T31 l0 i).f0, .slice A1 (rd_T31 l0 i).f1.length c1, .int .u8 (rd_T31 l0 i).f2, .string (rd_T31 l0 i).f3, .string (rd_T31 l0 i).f4, .int .i64 0, .int .i64 0]) (blk_put (cs' := #[.int .u8 (rd_T31 l0 i).f0, .slice A1 (rd_T31 l0 i).f1.length c1, .int .u8 (rd_T31 l0 i).f2, .string (rd_T31 l0 i).f3, .string (⟨#[]⟩ : ByteArray), .int .i64 0, .int .i64 0]) (blk_put (cs' := #[.int .u8 (rd_T31 l0 i).f0, .slice A1 (rd_T31 l0 i).f1.length c1, .int .u8 (rd_T31 l0 i).f2, .string (⟨#[]⟩ : ByteArray), .string (⟨#[]⟩ : ByteArray), .int .i64 0, .int .i64 0]) (blk_put (cs' := #[.int .u8 (rd_T31 l0 i).f0, .slice A1 (rd_T31 l0 i).f1.length c1, .int .u8 0, .string (⟨#[]⟩ : ByteArray), .string (⟨#[]⟩ : ByteArray), .int .i64 0, .int .i64 0]) (blk_put (cs' := #[.int .u8 (rd_T31 l0 i).f0, .slice none 0 0, .int .u8 0, .string (⟨#[]⟩ : ByteArray), .string (⟨#[]⟩ : ByteArray), .int .i64 0, .int .i64 0]) BK.out 0 (.int .u8 (rd_T31 l0 i).f0) rfl) 1 (.slice A1 (rd_T31 l0 i).f1.length c1) rfl) 2 (.int .u8 (rd_T31 l0 i).f2) rfl) 3 (.string (rd_T31 l0 i).f3) rfl) 4 (.string (rd_T31 l0 i).f4) rfl) 5 (.int .i64 (rd_T31 l0 i).f5) rfl) 6 (.int .i64 (rd_T31 l0 i).f6) rfl) hcl hb⟩; clear hcl hb; have hcz3_0 : w3.cell? ⟨g1, 0, none⟩ = some (.int .u8 (rd_T31 l0 i).f0) := (blk_cell S3.out.bk 0).trans rfl; have hcz3_1 : w3.cell? ⟨g1, 1, none⟩ = some (.slice A1 (rd_T31 l0 i).f1.length c1) := (blk_cell S3.out.bk 1).trans rfl; have hcz3_2 : w3.cell? ⟨g1, 2, none⟩ = some (.int .u8 (rd_T31 l0 i).f2) := (blk_cell S3.out.bk 2).trans rfl; have hcz3_3 : w3.cell? ⟨g1, 3, none⟩ = some (.string (rd_T31 l0 i).f3) := (blk_cell S3.out.bk 3).trans rfl; have hcz3_4 : w3.cell? ⟨g1, 4, none⟩ = some (.string (rd_T31 l0 i).f4) := (blk_cell S3.out.bk 4).trans rfl; have hcz3_5 : w3.cell? ⟨g1, 5, none⟩ = some (.int .i64 (rd_T31 l0 i).f5) := (blk_cell S3.out.bk 5).trans rfl; have hcz3_6 : w3.cell? ⟨g1, 6, none⟩ = some (.int .i64 (rd_T31 l0 i).f6) := (blk_cell S3.out.bk 6).trans rfl; have hfz3_0 := blk_frozen S3.out.bk 0; have hfz3_1 := blk_frozen S3.out.bk 1; have hfz3_2 := blk_frozen S3.out.bk 2; have hfz3_3 := blk_frozen S3.out.bk 3; have hfz3_4 := blk_frozen S3.out.bk 4; have hfz3_5 := blk_frozen S3.out.bk 5; have hfz3_6 := blk_frozen S3.out.bk 6)
                | (go_at_call 19; (refine (labels_tells.calls (rd_T31 l0 i).f0 Ao co (rd_T31 l0 i).f1 (rd_T31 l0 i).f2 (rd_T31 l0 i).f3 (rd_T31 l0 i).f4 (rd_T31 l0 i).f5 (rd_T31 l0 i).f6 (tellsB (rd_T31 l0 i)) _ ?s1 ?s2 (tells_eq (rd_T31 l0 i))).mono ?_); (case s1 => exact (Kd.R_reads' (S3.out.set 1 (.slice Ao (rd_T31 l0 i).f1.length co)).cl).2.2); (case s2 => exact (Kd.R_reads' (S3.out.set 1 (.slice Ao (rd_T31 l0 i).f1.length co)).cl).2.1); rintro e w4 ⟨rfl, hb⟩; have S4 : Aside0 (St w w4 g1 w.heap.size (w.heap.size + 1) k l0.length (cnt l0 k) (cnt l0 l0.length) u2 (.slice Ao (rd_T31 l0 i).f1.length co) out (rd_T31 l0 i).f1 #[.int .u8 (rd_T31 l0 i).f0, .slice Ao (rd_T31 l0 i).f1.length co, .int .u8 (rd_T31 l0 i).f2, .string (rd_T31 l0 i).f3, .string (rd_T31 l0 i).f4, .int .i64 (rd_T31 l0 i).f5, .int .i64 (rd_T31 l0 i).f6]) := ⟨(S3.out.set 1 (.slice Ao (rd_T31 l0 i).f1.length co)).below hb⟩; clear hb; have hcz4_0 : w4.cell? ⟨g1, 0, none⟩ = some (.int .u8 (rd_T31 l0 i).f0) := (blk_cell S4.out.bk 0).trans rfl; have hcz4_1 : w4.cell? ⟨g1, 1, none⟩ = some (.slice Ao (rd_T31 l0 i).f1.length co) := (blk_cell S4.out.bk 1).trans rfl; have hcz4_2 : w4.cell? ⟨g1, 2, none⟩ = some (.int .u8 (rd_T31 l0 i).f2) := (blk_cell S4.out.bk 2).trans rfl; have hcz4_3 : w4.cell? ⟨g1, 3, none⟩ = some (.string (rd_T31 l0 i).f3) := (blk_cell S4.out.bk 3).trans rfl; have hcz4_4 : w4.cell? ⟨g1, 4, none⟩ = some (.string (rd_T31 l0 i).f4) := (blk_cell S4.out.bk 4).trans rfl; have hcz4_5 : w4.cell? ⟨g1, 5, none⟩ = some (.int .i64 (rd_T31 l0 i).f5) := (blk_cell S4.out.bk 5).trans rfl; have hcz4_6 : w4.cell? ⟨g1, 6, none⟩ = some (.int .i64 (rd_T31 l0 i).f6) := (blk_cell S4.out.bk 6).trans rfl; have hfz4_0 := blk_frozen S4.out.bk 0; have hfz4_1 := blk_frozen S4.out.bk 1; have hfz4_2 := blk_frozen S4.out.bk 2; have hfz4_3 := blk_frozen S4.out.bk 3; have hfz4_4 := blk_frozen S4.out.bk 4; have hfz4_5 := blk_frozen S4.out.bk 5; have hfz4_6 := blk_frozen S4.out.bk 6)
                | (have _t := tk3; go_at_call 22; (refine (turn_calls l0 k _ g1 3 #[.int .u8 (rd_T31 l0 i).f0, .slice Ao (rd_T31 l0 i).f1.length co, .int .u8 (rd_T31 l0 i).f2, .string (rd_T31 l0 i).f3, .string (rd_T31 l0 i).f4, .int .i64 (rd_T31 l0 i).f5, .int .i64 (rd_T31 l0 i).f6] (rd_T31 l0 i).f3 w.heap.size (w.heap.size + 1) k l0.length (Lib.tabBelow_of_tabIs HT.out _ S4.out.bel) S4.out.bk rfl OKX.out.1 HL.out S4.out.m5 S4.out.m6).mono ?_); intro e w5 hp; clear tk3; rw [ht] at hp; obtain ⟨rfl, hst⟩ := turn_st S4.out rfl hp; clear hp; have S5 : Aside0 (St w w5 g1 w.heap.size (w.heap.size + 1) k l0.length (cnt l0 k) (cnt l0 l0.length) u2 (.slice Ao (rd_T31 l0 i).f1.length co) out (rd_T31 l0 i).f1 #[.int .u8 (rd_T31 l0 i).f0, .slice Ao (rd_T31 l0 i).f1.length co, .int .u8 (rd_T31 l0 i).f2, .string t, .string (rd_T31 l0 i).f4, .int .i64 (rd_T31 l0 i).f5, .int .i64 (rd_T31 l0 i).f6]) := ⟨hst⟩; clear hst; have hcz5_0 : w5.cell? ⟨g1, 0, none⟩ = some (.int .u8 (rd_T31 l0 i).f0) := (blk_cell S5.out.bk 0).trans rfl; have hcz5_1 : w5.cell? ⟨g1, 1, none⟩ = some (.slice Ao (rd_T31 l0 i).f1.length co) := (blk_cell S5.out.bk 1).trans rfl; have hcz5_2 : w5.cell? ⟨g1, 2, none⟩ = some (.int .u8 (rd_T31 l0 i).f2) := (blk_cell S5.out.bk 2).trans rfl; have hcz5_3 : w5.cell? ⟨g1, 3, none⟩ = some (.string t) := (blk_cell S5.out.bk 3).trans rfl; have hcz5_4 : w5.cell? ⟨g1, 4, none⟩ = some (.string (rd_T31 l0 i).f4) := (blk_cell S5.out.bk 4).trans rfl; have hcz5_5 : w5.cell? ⟨g1, 5, none⟩ = some (.int .i64 (rd_T31 l0 i).f5) := (blk_cell S5.out.bk 5).trans rfl; have hcz5_6 : w5.cell? ⟨g1, 6, none⟩ = some (.int .i64 (rd_T31 l0 i).f6) := (blk_cell S5.out.bk 6).trans rfl; have hfz5_0 := blk_frozen S5.out.bk 0; have hfz5_1 := blk_frozen S5.out.bk 1; have hfz5_2 := blk_frozen S5.out.bk 2; have hfz5_3 := blk_frozen S5.out.bk 3; have hfz5_4 := blk_frozen S5.out.bk 4; have hfz5_5 := blk_frozen S5.out.bk 5; have hfz5_6 := blk_frozen S5.out.bk 6)
                | ((with_reducible refine gate_builtin (b := .append) (xs := #[.tmp 81, .tmp 83]) rfl ?_); at_builtin; refine Kd.S_append k31 (w0 := w) w.heap.size rfl (.tmp 81) (.tmp 83) 22 31 (.agg #[(.int .u8 0), (.slice none 0 0), (.int .u8 0), (.string ⟨#[]⟩), (.string ⟨#[]⟩), (.int .i64 0), (.int .i64 0)]) 88 rfl Tryd.underlying22 info31 rfl (by decide) (by omega) u2 out (⟨(rd_T31 l0 i).f0, (rd_T31 l0 i).f1, (rd_T31 l0 i).f2, t, (rd_T31 l0 i).f4, (rd_T31 l0 i).f5, (rd_T31 l0 i).f6⟩ : S31) [.int .u8 (rd_T31 l0 i).f0, .slice Ao (rd_T31 l0 i).f1.length co, .int .u8 (rd_T31 l0 i).f2, .string t, .string (rd_T31 l0 i).f4, .int .i64 (rd_T31 l0 i).f5, .int .i64 (rd_T31 l0 i).f6] (fun q => q ≠ w.heap.size ∧ q ≠ (w.heap.size + 1)) (fun q => some q = (.slice Ao (rd_T31 l0 i).f1.length co : Value).ownBlock) rfl rfl ?aP ?aK ?aF ?aO ?aB ?aS ?aL ?_; (case aP => exact k31_mkM _ _ _ (⟨(rd_T31 l0 i).f0, (rd_T31 l0 i).f1, (rd_T31 l0 i).f2, t, (rd_T31 l0 i).f4, (rd_T31 l0 i).f5, (rd_T31 l0 i).f6⟩ : S31) (Kd.R_tight rfl S5.out.cl)); (case aK => exact fun q hq => by have h_ := (Kd.R_apart' S5.out.cl (Kd.S_typed S5.out.row) (by decide)).1 q hq.symm; exact ⟨h_.1.2, h_.2⟩); (case aF => exact fun q hq => by have := S5.out.m5.lt; have := S5.out.m6.lt; omega); (case aO => exact Kd.S_mono S5.out.row (fun q hq => ⟨hq.1, hq.2.2⟩)); (case aB => exact S5.out.bel); (case aS => exact below_size S5.out.bel); (case aL => have := KI.out; have := HL.out; omega); intro v7 w7 ho hb hg hat; have HS7 := Aside0.mk ho; have HB7 := Aside0.mk hb; have M57 := Aside0.mk (S5.out.m5.kept hg (fun e_ => ((Kd.S_R S5.out.row).1 _ e_.symm).1.1 rfl)); have M67 := Aside0.mk (S5.out.m6.kept hg (fun e_ => ((Kd.S_R S5.out.row).1 _ e_.symm).1.2 rfl)); clear ho hb hg hat))
              go_roundg g'
              case measure => omega
              case rel => exact ⟨wrap64 (i + 1), k + 1, out ++ [(⟨(rd_T31 l0 i).f0, (rd_T31 l0 i).f1, (rd_T31 l0 i).f2, t, (rd_T31 l0 i).f4, (rd_T31 l0 i).f5, (rd_T31 l0 i).f6⟩ : S31)], rfl, ⟨by have := KI.out.1; have := HL.out; unfold wrap64; omega, by have := KI.out.2; omega, by rw [List.length_append, KI.out.2.2]; rfl⟩, RES3, HS7, ⟨(M57.out.up (Nat.le_succ _)).mono (fun s hs => by rw [cnt_succ l0 k hk s, if_neg (fun e_ => hT0 (by rw [e_, ← KI.out.1] at hs; exact hs))])⟩, M67, HB7⟩
          rw [if_neg hf1] at o1
          have kb1_0 : ((rd_T31 l0 i).f0 == 1) = false := beq_eq_false_iff_ne.mpr hf1
          clear hf1
          by_cases hf3 : (rd_T31 l0 i).f0 = 3
          · rw [if_pos hf3] at o1
            have kb3_0 : ((rd_T31 l0 i).f0 == 3) = true := beq_iff_eq.mpr hf3
            clear hf3
            have tk3 : True := trivial
            cases ht : turnB l0 k (rd_T31 l0 i).f3 with
            | none =>
              rw [ht] at o1
              rw [o1] at RES2
              simp only [Option.bind_none, Prod.mk.injEq] at RES2
              obtain ⟨rfl, rfl, rfl⟩ := RES2
              clear o1
              go_wp2_with (first
                | ((with_reducible refine gate_dst (N := 10) rfl ?_); refine box_event ?hg (N := 10) ?hd (cs := #[.int .u8 0, .slice none 0 0, .int .u8 0, .string (⟨#[]⟩ : ByteArray), .string (⟨#[]⟩ : ByteArray), .int .i64 0, .int .i64 0]) (t := 31) ?hr ?_; (case hd => rfl); (case hg => rfl); (case hr => first | (go_simp; done) | (go_simp; rfl)); intro g1 hg w2 hbox hb; have HB2 := Aside0.mk (below_step HB.out hb); have GE := Aside0.mk (show w.heap.size ≤ g1 by rw [hg]; exact below_size HB.out); have NE5 := Aside0.mk (show w.heap.size ≠ g1 by rw [hg]; exact Nat.ne_of_lt M5.out.lt); have NE6 := Aside0.mk (show (w.heap.size + 1) ≠ g1 by rw [hg]; exact Nat.ne_of_lt M6.out.lt); have M5b := Aside0.mk (M5.out.below hb); have M6b := Aside0.mk (M6.out.below hb); have HSb := Aside0.mk (Kd.S_below (Kd.S_elderB HS.out g1 (Nat.le_of_eq hg.symm)) hb); have BK := Aside0.mk hbox; clear hb hbox hg; have hcz2_0 : w2.cell? ⟨g1, 0, none⟩ = some (.int .u8 0) := (blk_cell BK.out 0).trans rfl; have hcz2_1 : w2.cell? ⟨g1, 1, none⟩ = some (.slice none 0 0) := (blk_cell BK.out 1).trans rfl; have hcz2_2 : w2.cell? ⟨g1, 2, none⟩ = some (.int .u8 0) := (blk_cell BK.out 2).trans rfl; have hcz2_3 : w2.cell? ⟨g1, 3, none⟩ = some (.string (⟨#[]⟩ : ByteArray)) := (blk_cell BK.out 3).trans rfl; have hcz2_4 : w2.cell? ⟨g1, 4, none⟩ = some (.string (⟨#[]⟩ : ByteArray)) := (blk_cell BK.out 4).trans rfl; have hcz2_5 : w2.cell? ⟨g1, 5, none⟩ = some (.int .i64 0) := (blk_cell BK.out 5).trans rfl; have hcz2_6 : w2.cell? ⟨g1, 6, none⟩ = some (.int .i64 0) := (blk_cell BK.out 6).trans rfl; have hfz2_0 := blk_frozen BK.out 0; have hfz2_1 := blk_frozen BK.out 1; have hfz2_2 := blk_frozen BK.out 2; have hfz2_3 := blk_frozen BK.out 3; have hfz2_4 := blk_frozen BK.out 4; have hfz2_5 := blk_frozen BK.out 5; have hfz2_6 := blk_frozen BK.out 6)
                | (go_at_call 20; (refine (clone_calls A1 c1 (rd_T31 l0 i).f1 _ ?s1 ?s2).mono ?_); (case s1 => exact Kd.C_below HRx.out (by repeat (first | (with_reducible first | exact HB2.out | refine below_set ?_ GE.out) | exact HB2.out))); (case s2 => exact OKX.out.2.2); rintro e w3 ⟨v1, rfl, hcl, hb⟩; obtain ⟨Ao, co, eo⟩ := Kd.R_slice hcl; subst eo; have S3 : Aside0 (St w w3 g1 w.heap.size (w.heap.size + 1) k l0.length (cnt l0 k) (cnt l0 l0.length) u2 (.slice Ao (rd_T31 l0 i).f1.length co) out (rd_T31 l0 i).f1 #[.int .u8 (rd_T31 l0 i).f0, .slice A1 (rd_T31 l0 i).f1.length c1, .int .u8 (rd_T31 l0 i).f2, .string (rd_T31 l0 i).f3, .string (rd_T31 l0 i).f4, .int .i64 (rd_T31 l0 i).f5, .int .i64 (rd_T31 l0 i).f6]) := ⟨St.made (by (with_reducible repeat (refine Kd.S_far ?_ (fun _ hk => hk.2) _)); exact HSb.out) (by (with_reducible repeat (refine IsCnt.far ?_ NE5.out _)); exact M5b.out) (by (with_reducible repeat (refine IsCnt.far ?_ NE6.out _)); exact M6b.out) GE.out NE5.out NE6.out (by repeat (first | (with_reducible first | exact HB2.out | refine below_set ?_ GE.out) | exact HB2.out)) (blk_put (cs' := #[.int .u8 (rd_T31 l0 i).f0, .slice A1 (rd_T31 l0 i).f1.length c1, .int .u8 (rd_T31 l0 i).f2, .string (rd_T31 l0 i).f3, .string (rd_T31 l0 i).f4, .int .i64 (rd_T31 l0 i).f5, .int .i64 (rd_T31 l0 i).f6]) (blk_put (cs' := #[.int .u8 (rd_T31 l0 i).f0, .slice A1 (rd_T31 l0 i).f1.length c1, .int .u8 (rd_T31 l0 i).f2, .string (rd_T31 l0 i).f3, .string (rd_T31 l0 i).f4, .int .i64 (rd_T31 l0 i).f5, .int .i64 0]) (blk_put (cs' := #[.int .u8 (rd_T31 l0 i).f0, .slice A1 (rd_T31 l0 i).f1.length c1, .int .u8 (rd_T31 l0 i).f2, .string (rd_T31 l0 i).f3, .string (rd_T31 l0 i).f4, .int .i64 0, .int .i64 0]) (blk_put (cs' := #[.int .u8 (rd_T31 l0 i).f0, .slice A1 (rd_T31 l0 i).f1.length c1, .int .u8 (rd_T31 l0 i).f2, .string (rd_T31 l0 i).f3, .string (⟨#[]⟩ : ByteArray), .int .i64 0, .int .i64 0]) (blk_put (cs' := #[.int .u8 (rd_T31 l0 i).f0, .slice A1 (rd_T31 l0 i).f1.length c1, .int .u8 (rd_T31 l0 i).f2, .string (⟨#[]⟩ : ByteArray), .string (⟨#[]⟩ : ByteArray), .int .i64 0, .int .i64 0]) (blk_put (cs' := #[.int .u8 (rd_T31 l0 i).f0, .slice A1 (rd_T31 l0 i).f1.length c1, .int .u8 0, .string (⟨#[]⟩ : ByteArray), .string (⟨#[]⟩ : ByteArray), .int .i64 0, .int .i64 0]) (blk_put (cs' := #[.int .u8 (rd_T31 l0 i).f0, .slice none 0 0, .int .u8 0, .string (⟨#[]⟩ : ByteArray), .string (⟨#[]⟩ : ByteArray), .int .i64 0, .int .i64 0]) BK.out 0 (.int .u8 (rd_T31 l0 i).f0) rfl) 1 (.slice A1 (rd_T31 l0 i).f1.length c1) rfl) 2 (.int .u8 (rd_T31 l0 i).f2) rfl) 3 (.string (rd_T31 l0 i).f3) rfl) 4 (.string (rd_T31 l0 i).f4) rfl) 5 (.int .i64 (rd_T31 l0 i).f5) rfl) 6 (.int .i64 (rd_T31 l0 i).f6) rfl) hcl hb⟩; clear hcl hb; have hcz3_0 : w3.cell? ⟨g1, 0, none⟩ = some (.int .u8 (rd_T31 l0 i).f0) := (blk_cell S3.out.bk 0).trans rfl; have hcz3_1 : w3.cell? ⟨g1, 1, none⟩ = some (.slice A1 (rd_T31 l0 i).f1.length c1) := (blk_cell S3.out.bk 1).trans rfl; have hcz3_2 : w3.cell? ⟨g1, 2, none⟩ = some (.int .u8 (rd_T31 l0 i).f2) := (blk_cell S3.out.bk 2).trans rfl; have hcz3_3 : w3.cell? ⟨g1, 3, none⟩ = some (.string (rd_T31 l0 i).f3) := (blk_cell S3.out.bk 3).trans rfl; have hcz3_4 : w3.cell? ⟨g1, 4, none⟩ = some (.string (rd_T31 l0 i).f4) := (blk_cell S3.out.bk 4).trans rfl; have hcz3_5 : w3.cell? ⟨g1, 5, none⟩ = some (.int .i64 (rd_T31 l0 i).f5) := (blk_cell S3.out.bk 5).trans rfl; have hcz3_6 : w3.cell? ⟨g1, 6, none⟩ = some (.int .i64 (rd_T31 l0 i).f6) := (blk_cell S3.out.bk 6).trans rfl; have hfz3_0 := blk_frozen S3.out.bk 0; have hfz3_1 := blk_frozen S3.out.bk 1; have hfz3_2 := blk_frozen S3.out.bk 2; have hfz3_3 := blk_frozen S3.out.bk 3; have hfz3_4 := blk_frozen S3.out.bk 4; have hfz3_5 := blk_frozen S3.out.bk 5; have hfz3_6 := blk_frozen S3.out.bk 6)
                | (go_at_call 19; (refine (labels_tells.calls (rd_T31 l0 i).f0 Ao co (rd_T31 l0 i).f1 (rd_T31 l0 i).f2 (rd_T31 l0 i).f3 (rd_T31 l0 i).f4 (rd_T31 l0 i).f5 (rd_T31 l0 i).f6 (tellsB (rd_T31 l0 i)) _ ?s1 ?s2 (tells_eq (rd_T31 l0 i))).mono ?_); (case s1 => exact (Kd.R_reads' (S3.out.set 1 (.slice Ao (rd_T31 l0 i).f1.length co)).cl).2.2); (case s2 => exact (Kd.R_reads' (S3.out.set 1 (.slice Ao (rd_T31 l0 i).f1.length co)).cl).2.1); rintro e w4 ⟨rfl, hb⟩; have S4 : Aside0 (St w w4 g1 w.heap.size (w.heap.size + 1) k l0.length (cnt l0 k) (cnt l0 l0.length) u2 (.slice Ao (rd_T31 l0 i).f1.length co) out (rd_T31 l0 i).f1 #[.int .u8 (rd_T31 l0 i).f0, .slice Ao (rd_T31 l0 i).f1.length co, .int .u8 (rd_T31 l0 i).f2, .string (rd_T31 l0 i).f3, .string (rd_T31 l0 i).f4, .int .i64 (rd_T31 l0 i).f5, .int .i64 (rd_T31 l0 i).f6]) := ⟨(S3.out.set 1 (.slice Ao (rd_T31 l0 i).f1.length co)).below hb⟩; clear hb; have hcz4_0 : w4.cell? ⟨g1, 0, none⟩ = some (.int .u8 (rd_T31 l0 i).f0) := (blk_cell S4.out.bk 0).trans rfl; have hcz4_1 : w4.cell? ⟨g1, 1, none⟩ = some (.slice Ao (rd_T31 l0 i).f1.length co) := (blk_cell S4.out.bk 1).trans rfl; have hcz4_2 : w4.cell? ⟨g1, 2, none⟩ = some (.int .u8 (rd_T31 l0 i).f2) := (blk_cell S4.out.bk 2).trans rfl; have hcz4_3 : w4.cell? ⟨g1, 3, none⟩ = some (.string (rd_T31 l0 i).f3) := (blk_cell S4.out.bk 3).trans rfl; have hcz4_4 : w4.cell? ⟨g1, 4, none⟩ = some (.string (rd_T31 l0 i).f4) := (blk_cell S4.out.bk 4).trans rfl; have hcz4_5 : w4.cell? ⟨g1, 5, none⟩ = some (.int .i64 (rd_T31 l0 i).f5) := (blk_cell S4.out.bk 5).trans rfl; have hcz4_6 : w4.cell? ⟨g1, 6, none⟩ = some (.int .i64 (rd_T31 l0 i).f6) := (blk_cell S4.out.bk 6).trans rfl; have hfz4_0 := blk_frozen S4.out.bk 0; have hfz4_1 := blk_frozen S4.out.bk 1; have hfz4_2 := blk_frozen S4.out.bk 2; have hfz4_3 := blk_frozen S4.out.bk 3; have hfz4_4 := blk_frozen S4.out.bk 4; have hfz4_5 := blk_frozen S4.out.bk 5; have hfz4_6 := blk_frozen S4.out.bk 6)
                | (have _t := tk3; go_at_call 22; (refine (turn_calls l0 k _ g1 3 #[.int .u8 (rd_T31 l0 i).f0, .slice Ao (rd_T31 l0 i).f1.length co, .int .u8 (rd_T31 l0 i).f2, .string (rd_T31 l0 i).f3, .string (rd_T31 l0 i).f4, .int .i64 (rd_T31 l0 i).f5, .int .i64 (rd_T31 l0 i).f6] (rd_T31 l0 i).f3 w.heap.size (w.heap.size + 1) k l0.length (Lib.tabBelow_of_tabIs HT.out _ S4.out.bel) S4.out.bk rfl OKX.out.1 HL.out S4.out.m5 S4.out.m6).mono ?_); intro e w5 hp; clear tk3; rw [ht] at hp; obtain ⟨rfl, hst⟩ := turn_no S4.out hp; clear hp; have S5 := Aside0.mk hst; clear hst))
              go_ret3
              exact ⟨_, rfl, Kd.S_nil _ _ _ _ _, S5.out.bel⟩
            | some t =>
              have tk4 : True := trivial
              cases ht2 : turnB l0 k (rd_T31 l0 i).f4 with
              | none =>
                rw [ht] at o1
                simp only [Option.bind_some, ht2, Option.map_none] at o1
                rw [o1] at RES2
                simp only [Prod.mk.injEq] at RES2
                obtain ⟨rfl, rfl, rfl⟩ := RES2
                clear o1
                go_wp2_with (first
                  | ((with_reducible refine gate_dst (N := 10) rfl ?_); refine box_event ?hg (N := 10) ?hd (cs := #[.int .u8 0, .slice none 0 0, .int .u8 0, .string (⟨#[]⟩ : ByteArray), .string (⟨#[]⟩ : ByteArray), .int .i64 0, .int .i64 0]) (t := 31) ?hr ?_; (case hd => rfl); (case hg => rfl); (case hr => first | (go_simp; done) | (go_simp; rfl)); intro g1 hg w2 hbox hb; have HB2 := Aside0.mk (below_step HB.out hb); have GE := Aside0.mk (show w.heap.size ≤ g1 by rw [hg]; exact below_size HB.out); have NE5 := Aside0.mk (show w.heap.size ≠ g1 by rw [hg]; exact Nat.ne_of_lt M5.out.lt); have NE6 := Aside0.mk (show (w.heap.size + 1) ≠ g1 by rw [hg]; exact Nat.ne_of_lt M6.out.lt); have M5b := Aside0.mk (M5.out.below hb); have M6b := Aside0.mk (M6.out.below hb); have HSb := Aside0.mk (Kd.S_below (Kd.S_elderB HS.out g1 (Nat.le_of_eq hg.symm)) hb); have BK := Aside0.mk hbox; clear hb hbox hg; have hcz2_0 : w2.cell? ⟨g1, 0, none⟩ = some (.int .u8 0) := (blk_cell BK.out 0).trans rfl; have hcz2_1 : w2.cell? ⟨g1, 1, none⟩ = some (.slice none 0 0) := (blk_cell BK.out 1).trans rfl; have hcz2_2 : w2.cell? ⟨g1, 2, none⟩ = some (.int .u8 0) := (blk_cell BK.out 2).trans rfl; have hcz2_3 : w2.cell? ⟨g1, 3, none⟩ = some (.string (⟨#[]⟩ : ByteArray)) := (blk_cell BK.out 3).trans rfl; have hcz2_4 : w2.cell? ⟨g1, 4, none⟩ = some (.string (⟨#[]⟩ : ByteArray)) := (blk_cell BK.out 4).trans rfl; have hcz2_5 : w2.cell? ⟨g1, 5, none⟩ = some (.int .i64 0) := (blk_cell BK.out 5).trans rfl; have hcz2_6 : w2.cell? ⟨g1, 6, none⟩ = some (.int .i64 0) := (blk_cell BK.out 6).trans rfl; have hfz2_0 := blk_frozen BK.out 0; have hfz2_1 := blk_frozen BK.out 1; have hfz2_2 := blk_frozen BK.out 2; have hfz2_3 := blk_frozen BK.out 3; have hfz2_4 := blk_frozen BK.out 4; have hfz2_5 := blk_frozen BK.out 5; have hfz2_6 := blk_frozen BK.out 6)
                  | (go_at_call 20; (refine (clone_calls A1 c1 (rd_T31 l0 i).f1 _ ?s1 ?s2).mono ?_); (case s1 => exact Kd.C_below HRx.out (by repeat (first | (with_reducible first | exact HB2.out | refine below_set ?_ GE.out) | exact HB2.out))); (case s2 => exact OKX.out.2.2); rintro e w3 ⟨v1, rfl, hcl, hb⟩; obtain ⟨Ao, co, eo⟩ := Kd.R_slice hcl; subst eo; have S3 : Aside0 (St w w3 g1 w.heap.size (w.heap.size + 1) k l0.length (cnt l0 k) (cnt l0 l0.length) u2 (.slice Ao (rd_T31 l0 i).f1.length co) out (rd_T31 l0 i).f1 #[.int .u8 (rd_T31 l0 i).f0, .slice A1 (rd_T31 l0 i).f1.length c1, .int .u8 (rd_T31 l0 i).f2, .string (rd_T31 l0 i).f3, .string (rd_T31 l0 i).f4, .int .i64 (rd_T31 l0 i).f5, .int .i64 (rd_T31 l0 i).f6]) := ⟨St.made (by (with_reducible repeat (refine Kd.S_far ?_ (fun _ hk => hk.2) _)); exact HSb.out) (by (with_reducible repeat (refine IsCnt.far ?_ NE5.out _)); exact M5b.out) (by (with_reducible repeat (refine IsCnt.far ?_ NE6.out _)); exact M6b.out) GE.out NE5.out NE6.out (by repeat (first | (with_reducible first | exact HB2.out | refine below_set ?_ GE.out) | exact HB2.out)) (blk_put (cs' := #[.int .u8 (rd_T31 l0 i).f0, .slice A1 (rd_T31 l0 i).f1.length c1, .int .u8 (rd_T31 l0 i).f2, .string (rd_T31 l0 i).f3, .string (rd_T31 l0 i).f4, .int .i64 (rd_T31 l0 i).f5, .int .i64 (rd_T31 l0 i).f6]) (blk_put (cs' := #[.int .u8 (rd_T31 l0 i).f0, .slice A1 (rd_T31 l0 i).f1.length c1, .int .u8 (rd_T31 l0 i).f2, .string (rd_T31 l0 i).f3, .string (rd_T31 l0 i).f4, .int .i64 (rd_T31 l0 i).f5, .int .i64 0]) (blk_put (cs' := #[.int .u8 (rd_T31 l0 i).f0, .slice A1 (rd_T31 l0 i).f1.length c1, .int .u8 (rd_T31 l0 i).f2, .string (rd_T31 l0 i).f3, .string (rd_T31 l0 i).f4, .int .i64 0, .int .i64 0]) (blk_put (cs' := #[.int .u8 (rd_T31 l0 i).f0, .slice A1 (rd_T31 l0 i).f1.length c1, .int .u8 (rd_T31 l0 i).f2, .string (rd_T31 l0 i).f3, .string (⟨#[]⟩ : ByteArray), .int .i64 0, .int .i64 0]) (blk_put (cs' := #[.int .u8 (rd_T31 l0 i).f0, .slice A1 (rd_T31 l0 i).f1.length c1, .int .u8 (rd_T31 l0 i).f2, .string (⟨#[]⟩ : ByteArray), .string (⟨#[]⟩ : ByteArray), .int .i64 0, .int .i64 0]) (blk_put (cs' := #[.int .u8 (rd_T31 l0 i).f0, .slice A1 (rd_T31 l0 i).f1.length c1, .int .u8 0, .string (⟨#[]⟩ : ByteArray), .string (⟨#[]⟩ : ByteArray), .int .i64 0, .int .i64 0]) (blk_put (cs' := #[.int .u8 (rd_T31 l0 i).f0, .slice none 0 0, .int .u8 0, .string (⟨#[]⟩ : ByteArray), .string (⟨#[]⟩ : ByteArray), .int .i64 0, .int .i64 0]) BK.out 0 (.int .u8 (rd_T31 l0 i).f0) rfl) 1 (.slice A1 (rd_T31 l0 i).f1.length c1) rfl) 2 (.int .u8 (rd_T31 l0 i).f2) rfl) 3 (.string (rd_T31 l0 i).f3) rfl) 4 (.string (rd_T31 l0 i).f4) rfl) 5 (.int .i64 (rd_T31 l0 i).f5) rfl) 6 (.int .i64 (rd_T31 l0 i).f6) rfl) hcl hb⟩; clear hcl hb; have hcz3_0 : w3.cell? ⟨g1, 0, none⟩ = some (.int .u8 (rd_T31 l0 i).f0) := (blk_cell S3.out.bk 0).trans rfl; have hcz3_1 : w3.cell? ⟨g1, 1, none⟩ = some (.slice A1 (rd_T31 l0 i).f1.length c1) := (blk_cell S3.out.bk 1).trans rfl; have hcz3_2 : w3.cell? ⟨g1, 2, none⟩ = some (.int .u8 (rd_T31 l0 i).f2) := (blk_cell S3.out.bk 2).trans rfl; have hcz3_3 : w3.cell? ⟨g1, 3, none⟩ = some (.string (rd_T31 l0 i).f3) := (blk_cell S3.out.bk 3).trans rfl; have hcz3_4 : w3.cell? ⟨g1, 4, none⟩ = some (.string (rd_T31 l0 i).f4) := (blk_cell S3.out.bk 4).trans rfl; have hcz3_5 : w3.cell? ⟨g1, 5, none⟩ = some (.int .i64 (rd_T31 l0 i).f5) := (blk_cell S3.out.bk 5).trans rfl; have hcz3_6 : w3.cell? ⟨g1, 6, none⟩ = some (.int .i64 (rd_T31 l0 i).f6) := (blk_cell S3.out.bk 6).trans rfl; have hfz3_0 := blk_frozen S3.out.bk 0; have hfz3_1 := blk_frozen S3.out.bk 1; have hfz3_2 := blk_frozen S3.out.bk 2; have hfz3_3 := blk_frozen S3.out.bk 3; have hfz3_4 := blk_frozen S3.out.bk 4; have hfz3_5 := blk_frozen S3.out.bk 5; have hfz3_6 := blk_frozen S3.out.bk 6)
                  | (go_at_call 19; (refine (labels_tells.calls (rd_T31 l0 i).f0 Ao co (rd_T31 l0 i).f1 (rd_T31 l0 i).f2 (rd_T31 l0 i).f3 (rd_T31 l0 i).f4 (rd_T31 l0 i).f5 (rd_T31 l0 i).f6 (tellsB (rd_T31 l0 i)) _ ?s1 ?s2 (tells_eq (rd_T31 l0 i))).mono ?_); (case s1 => exact (Kd.R_reads' (S3.out.set 1 (.slice Ao (rd_T31 l0 i).f1.length co)).cl).2.2); (case s2 => exact (Kd.R_reads' (S3.out.set 1 (.slice Ao (rd_T31 l0 i).f1.length co)).cl).2.1); rintro e w4 ⟨rfl, hb⟩; have S4 : Aside0 (St w w4 g1 w.heap.size (w.heap.size + 1) k l0.length (cnt l0 k) (cnt l0 l0.length) u2 (.slice Ao (rd_T31 l0 i).f1.length co) out (rd_T31 l0 i).f1 #[.int .u8 (rd_T31 l0 i).f0, .slice Ao (rd_T31 l0 i).f1.length co, .int .u8 (rd_T31 l0 i).f2, .string (rd_T31 l0 i).f3, .string (rd_T31 l0 i).f4, .int .i64 (rd_T31 l0 i).f5, .int .i64 (rd_T31 l0 i).f6]) := ⟨(S3.out.set 1 (.slice Ao (rd_T31 l0 i).f1.length co)).below hb⟩; clear hb; have hcz4_0 : w4.cell? ⟨g1, 0, none⟩ = some (.int .u8 (rd_T31 l0 i).f0) := (blk_cell S4.out.bk 0).trans rfl; have hcz4_1 : w4.cell? ⟨g1, 1, none⟩ = some (.slice Ao (rd_T31 l0 i).f1.length co) := (blk_cell S4.out.bk 1).trans rfl; have hcz4_2 : w4.cell? ⟨g1, 2, none⟩ = some (.int .u8 (rd_T31 l0 i).f2) := (blk_cell S4.out.bk 2).trans rfl; have hcz4_3 : w4.cell? ⟨g1, 3, none⟩ = some (.string (rd_T31 l0 i).f3) := (blk_cell S4.out.bk 3).trans rfl; have hcz4_4 : w4.cell? ⟨g1, 4, none⟩ = some (.string (rd_T31 l0 i).f4) := (blk_cell S4.out.bk 4).trans rfl; have hcz4_5 : w4.cell? ⟨g1, 5, none⟩ = some (.int .i64 (rd_T31 l0 i).f5) := (blk_cell S4.out.bk 5).trans rfl; have hcz4_6 : w4.cell? ⟨g1, 6, none⟩ = some (.int .i64 (rd_T31 l0 i).f6) := (blk_cell S4.out.bk 6).trans rfl; have hfz4_0 := blk_frozen S4.out.bk 0; have hfz4_1 := blk_frozen S4.out.bk 1; have hfz4_2 := blk_frozen S4.out.bk 2; have hfz4_3 := blk_frozen S4.out.bk 3; have hfz4_4 := blk_frozen S4.out.bk 4; have hfz4_5 := blk_frozen S4.out.bk 5; have hfz4_6 := blk_frozen S4.out.bk 6)
                  | (have _t := tk3; go_at_call 22; (refine (turn_calls l0 k _ g1 3 #[.int .u8 (rd_T31 l0 i).f0, .slice Ao (rd_T31 l0 i).f1.length co, .int .u8 (rd_T31 l0 i).f2, .string (rd_T31 l0 i).f3, .string (rd_T31 l0 i).f4, .int .i64 (rd_T31 l0 i).f5, .int .i64 (rd_T31 l0 i).f6] (rd_T31 l0 i).f3 w.heap.size (w.heap.size + 1) k l0.length (Lib.tabBelow_of_tabIs HT.out _ S4.out.bel) S4.out.bk rfl OKX.out.1 HL.out S4.out.m5 S4.out.m6).mono ?_); intro e w5 hp; clear tk3; rw [ht] at hp; obtain ⟨rfl, hst⟩ := turn_st S4.out rfl hp; clear hp; have S5 : Aside0 (St w w5 g1 w.heap.size (w.heap.size + 1) k l0.length (cnt l0 k) (cnt l0 l0.length) u2 (.slice Ao (rd_T31 l0 i).f1.length co) out (rd_T31 l0 i).f1 #[.int .u8 (rd_T31 l0 i).f0, .slice Ao (rd_T31 l0 i).f1.length co, .int .u8 (rd_T31 l0 i).f2, .string t, .string (rd_T31 l0 i).f4, .int .i64 (rd_T31 l0 i).f5, .int .i64 (rd_T31 l0 i).f6]) := ⟨hst⟩; clear hst; have hcz5_0 : w5.cell? ⟨g1, 0, none⟩ = some (.int .u8 (rd_T31 l0 i).f0) := (blk_cell S5.out.bk 0).trans rfl; have hcz5_1 : w5.cell? ⟨g1, 1, none⟩ = some (.slice Ao (rd_T31 l0 i).f1.length co) := (blk_cell S5.out.bk 1).trans rfl; have hcz5_2 : w5.cell? ⟨g1, 2, none⟩ = some (.int .u8 (rd_T31 l0 i).f2) := (blk_cell S5.out.bk 2).trans rfl; have hcz5_3 : w5.cell? ⟨g1, 3, none⟩ = some (.string t) := (blk_cell S5.out.bk 3).trans rfl; have hcz5_4 : w5.cell? ⟨g1, 4, none⟩ = some (.string (rd_T31 l0 i).f4) := (blk_cell S5.out.bk 4).trans rfl; have hcz5_5 : w5.cell? ⟨g1, 5, none⟩ = some (.int .i64 (rd_T31 l0 i).f5) := (blk_cell S5.out.bk 5).trans rfl; have hcz5_6 : w5.cell? ⟨g1, 6, none⟩ = some (.int .i64 (rd_T31 l0 i).f6) := (blk_cell S5.out.bk 6).trans rfl; have hfz5_0 := blk_frozen S5.out.bk 0; have hfz5_1 := blk_frozen S5.out.bk 1; have hfz5_2 := blk_frozen S5.out.bk 2; have hfz5_3 := blk_frozen S5.out.bk 3; have hfz5_4 := blk_frozen S5.out.bk 4; have hfz5_5 := blk_frozen S5.out.bk 5; have hfz5_6 := blk_frozen S5.out.bk 6)
                  | (have _t := tk4; go_at_call 22; (refine (turn_calls l0 k _ g1 4 #[.int .u8 (rd_T31 l0 i).f0, .slice Ao (rd_T31 l0 i).f1.length co, .int .u8 (rd_T31 l0 i).f2, .string t, .string (rd_T31 l0 i).f4, .int .i64 (rd_T31 l0 i).f5, .int .i64 (rd_T31 l0 i).f6] (rd_T31 l0 i).f4 w.heap.size (w.heap.size + 1) k l0.length (Lib.tabBelow_of_tabIs HT.out _ S5.out.bel) S5.out.bk rfl OKX.out.2.1 HL.out S5.out.m5 S5.out.m6).mono ?_); intro e w6 hp; clear tk4; rw [ht2] at hp; obtain ⟨rfl, hst⟩ := turn_no S5.out hp; clear hp; have S6 := Aside0.mk hst; clear hst))
                go_ret3
                exact ⟨_, rfl, Kd.S_nil _ _ _ _ _, S6.out.bel⟩
              | some t2 =>
                rw [ht] at o1
                simp only [Option.bind_some, ht2, Option.map_some] at o1
                rw [o1] at RES2
                have RES3 := Aside0.mk RES2
                clear RES2 o1
                go_wp2_with (first
                  | ((with_reducible refine gate_dst (N := 10) rfl ?_); refine box_event ?hg (N := 10) ?hd (cs := #[.int .u8 0, .slice none 0 0, .int .u8 0, .string (⟨#[]⟩ : ByteArray), .string (⟨#[]⟩ : ByteArray), .int .i64 0, .int .i64 0]) (t := 31) ?hr ?_; (case hd => rfl); (case hg => rfl); (case hr => first | (go_simp; done) | (go_simp; rfl)); intro g1 hg w2 hbox hb; have HB2 := Aside0.mk (below_step HB.out hb); have GE := Aside0.mk (show w.heap.size ≤ g1 by rw [hg]; exact below_size HB.out); have NE5 := Aside0.mk (show w.heap.size ≠ g1 by rw [hg]; exact Nat.ne_of_lt M5.out.lt); have NE6 := Aside0.mk (show (w.heap.size + 1) ≠ g1 by rw [hg]; exact Nat.ne_of_lt M6.out.lt); have M5b := Aside0.mk (M5.out.below hb); have M6b := Aside0.mk (M6.out.below hb); have HSb := Aside0.mk (Kd.S_below (Kd.S_elderB HS.out g1 (Nat.le_of_eq hg.symm)) hb); have BK := Aside0.mk hbox; clear hb hbox hg; have hcz2_0 : w2.cell? ⟨g1, 0, none⟩ = some (.int .u8 0) := (blk_cell BK.out 0).trans rfl; have hcz2_1 : w2.cell? ⟨g1, 1, none⟩ = some (.slice none 0 0) := (blk_cell BK.out 1).trans rfl; have hcz2_2 : w2.cell? ⟨g1, 2, none⟩ = some (.int .u8 0) := (blk_cell BK.out 2).trans rfl; have hcz2_3 : w2.cell? ⟨g1, 3, none⟩ = some (.string (⟨#[]⟩ : ByteArray)) := (blk_cell BK.out 3).trans rfl; have hcz2_4 : w2.cell? ⟨g1, 4, none⟩ = some (.string (⟨#[]⟩ : ByteArray)) := (blk_cell BK.out 4).trans rfl; have hcz2_5 : w2.cell? ⟨g1, 5, none⟩ = some (.int .i64 0) := (blk_cell BK.out 5).trans rfl; have hcz2_6 : w2.cell? ⟨g1, 6, none⟩ = some (.int .i64 0) := (blk_cell BK.out 6).trans rfl; have hfz2_0 := blk_frozen BK.out 0; have hfz2_1 := blk_frozen BK.out 1; have hfz2_2 := blk_frozen BK.out 2; have hfz2_3 := blk_frozen BK.out 3; have hfz2_4 := blk_frozen BK.out 4; have hfz2_5 := blk_frozen BK.out 5; have hfz2_6 := blk_frozen BK.out 6)
                  | (go_at_call 20; (refine (clone_calls A1 c1 (rd_T31 l0 i).f1 _ ?s1 ?s2).mono ?_); (case s1 => exact Kd.C_below HRx.out (by repeat (first | (with_reducible first | exact HB2.out | refine below_set ?_ GE.out) | exact HB2.out))); (case s2 => exact OKX.out.2.2); rintro e w3 ⟨v1, rfl, hcl, hb⟩; obtain ⟨Ao, co, eo⟩ := Kd.R_slice hcl; subst eo; have S3 : Aside0 (St w w3 g1 w.heap.size (w.heap.size + 1) k l0.length (cnt l0 k) (cnt l0 l0.length) u2 (.slice Ao (rd_T31 l0 i).f1.length co) out (rd_T31 l0 i).f1 #[.int .u8 (rd_T31 l0 i).f0, .slice A1 (rd_T31 l0 i).f1.length c1, .int .u8 (rd_T31 l0 i).f2, .string (rd_T31 l0 i).f3, .string (rd_T31 l0 i).f4, .int .i64 (rd_T31 l0 i).f5, .int .i64 (rd_T31 l0 i).f6]) := ⟨St.made (by (with_reducible repeat (refine Kd.S_far ?_ (fun _ hk => hk.2) _)); exact HSb.out) (by (with_reducible repeat (refine IsCnt.far ?_ NE5.out _)); exact M5b.out) (by (with_reducible repeat (refine IsCnt.far ?_ NE6.out _)); exact M6b.out) GE.out NE5.out NE6.out (by repeat (first | (with_reducible first | exact HB2.out | refine below_set ?_ GE.out) | exact HB2.out)) (blk_put (cs' := #[.int .u8 (rd_T31 l0 i).f0, .slice A1 (rd_T31 l0 i).f1.length c1, .int .u8 (rd_T31 l0 i).f2, .string (rd_T31 l0 i).f3, .string (rd_T31 l0 i).f4, .int .i64 (rd_T31 l0 i).f5, .int .i64 (rd_T31 l0 i).f6]) (blk_put (cs' := #[.int .u8 (rd_T31 l0 i).f0, .slice A1 (rd_T31 l0 i).f1.length c1, .int .u8 (rd_T31 l0 i).f2, .string (rd_T31 l0 i).f3, .string (rd_T31 l0 i).f4, .int .i64 (rd_T31 l0 i).f5, .int .i64 0]) (blk_put (cs' := #[.int .u8 (rd_T31 l0 i).f0, .slice A1 (rd_T31 l0 i).f1.length c1, .int .u8 (rd_T31 l0 i).f2, .string (rd_T31 l0 i).f3, .string (rd_T31 l0 i).f4, .int .i64 0, .int .i64 0]) (blk_put (cs' := #[.int .u8 (rd_T31 l0 i).f0, .slice A1 (rd_T31 l0 i).f1.length c1, .int .u8 (rd_T31 l0 i).f2, .string (rd_T31 l0 i).f3, .string (⟨#[]⟩ : ByteArray), .int .i64 0, .int .i64 0]) (blk_put (cs' := #[.int .u8 (rd_T31 l0 i).f0, .slice A1 (rd_T31 l0 i).f1.length c1, .int .u8 (rd_T31 l0 i).f2, .string (⟨#[]⟩ : ByteArray), .string (⟨#[]⟩ : ByteArray), .int .i64 0, .int .i64 0]) (blk_put (cs' := #[.int .u8 (rd_T31 l0 i).f0, .slice A1 (rd_T31 l0 i).f1.length c1, .int .u8 0, .string (⟨#[]⟩ : ByteArray), .string (⟨#[]⟩ : ByteArray), .int .i64 0, .int .i64 0]) (blk_put (cs' := #[.int .u8 (rd_T31 l0 i).f0, .slice none 0 0, .int .u8 0, .string (⟨#[]⟩ : ByteArray), .string (⟨#[]⟩ : ByteArray), .int .i64 0, .int .i64 0]) BK.out 0 (.int .u8 (rd_T31 l0 i).f0) rfl) 1 (.slice A1 (rd_T31 l0 i).f1.length c1) rfl) 2 (.int .u8 (rd_T31 l0 i).f2) rfl) 3 (.string (rd_T31 l0 i).f3) rfl) 4 (.string (rd_T31 l0 i).f4) rfl) 5 (.int .i64 (rd_T31 l0 i).f5) rfl) 6 (.int .i64 (rd_T31 l0 i).f6) rfl) hcl hb⟩; clear hcl hb; have hcz3_0 : w3.cell? ⟨g1, 0, none⟩ = some (.int .u8 (rd_T31 l0 i).f0) := (blk_cell S3.out.bk 0).trans rfl; have hcz3_1 : w3.cell? ⟨g1, 1, none⟩ = some (.slice A1 (rd_T31 l0 i).f1.length c1) := (blk_cell S3.out.bk 1).trans rfl; have hcz3_2 : w3.cell? ⟨g1, 2, none⟩ = some (.int .u8 (rd_T31 l0 i).f2) := (blk_cell S3.out.bk 2).trans rfl; have hcz3_3 : w3.cell? ⟨g1, 3, none⟩ = some (.string (rd_T31 l0 i).f3) := (blk_cell S3.out.bk 3).trans rfl; have hcz3_4 : w3.cell? ⟨g1, 4, none⟩ = some (.string (rd_T31 l0 i).f4) := (blk_cell S3.out.bk 4).trans rfl; have hcz3_5 : w3.cell? ⟨g1, 5, none⟩ = some (.int .i64 (rd_T31 l0 i).f5) := (blk_cell S3.out.bk 5).trans rfl; have hcz3_6 : w3.cell? ⟨g1, 6, none⟩ = some (.int .i64 (rd_T31 l0 i).f6) := (blk_cell S3.out.bk 6).trans rfl; have hfz3_0 := blk_frozen S3.out.bk 0; have hfz3_1 := blk_frozen S3.out.bk 1; have hfz3_2 := blk_frozen S3.out.bk 2; have hfz3_3 := blk_frozen S3.out.bk 3; have hfz3_4 := blk_frozen S3.out.bk 4; have hfz3_5 := blk_frozen S3.out.bk 5; have hfz3_6 := blk_frozen S3.out.bk 6)
                  | (go_at_call 19; (refine (labels_tells.calls (rd_T31 l0 i).f0 Ao co (rd_T31 l0 i).f1 (rd_T31 l0 i).f2 (rd_T31 l0 i).f3 (rd_T31 l0 i).f4 (rd_T31 l0 i).f5 (rd_T31 l0 i).f6 (tellsB (rd_T31 l0 i)) _ ?s1 ?s2 (tells_eq (rd_T31 l0 i))).mono ?_); (case s1 => exact (Kd.R_reads' (S3.out.set 1 (.slice Ao (rd_T31 l0 i).f1.length co)).cl).2.2); (case s2 => exact (Kd.R_reads' (S3.out.set 1 (.slice Ao (rd_T31 l0 i).f1.length co)).cl).2.1); rintro e w4 ⟨rfl, hb⟩; have S4 : Aside0 (St w w4 g1 w.heap.size (w.heap.size + 1) k l0.length (cnt l0 k) (cnt l0 l0.length) u2 (.slice Ao (rd_T31 l0 i).f1.length co) out (rd_T31 l0 i).f1 #[.int .u8 (rd_T31 l0 i).f0, .slice Ao (rd_T31 l0 i).f1.length co, .int .u8 (rd_T31 l0 i).f2, .string (rd_T31 l0 i).f3, .string (rd_T31 l0 i).f4, .int .i64 (rd_T31 l0 i).f5, .int .i64 (rd_T31 l0 i).f6]) := ⟨(S3.out.set 1 (.slice Ao (rd_T31 l0 i).f1.length co)).below hb⟩; clear hb; have hcz4_0 : w4.cell? ⟨g1, 0, none⟩ = some (.int .u8 (rd_T31 l0 i).f0) := (blk_cell S4.out.bk 0).trans rfl; have hcz4_1 : w4.cell? ⟨g1, 1, none⟩ = some (.slice Ao (rd_T31 l0 i).f1.length co) := (blk_cell S4.out.bk 1).trans rfl; have hcz4_2 : w4.cell? ⟨g1, 2, none⟩ = some (.int .u8 (rd_T31 l0 i).f2) := (blk_cell S4.out.bk 2).trans rfl; have hcz4_3 : w4.cell? ⟨g1, 3, none⟩ = some (.string (rd_T31 l0 i).f3) := (blk_cell S4.out.bk 3).trans rfl; have hcz4_4 : w4.cell? ⟨g1, 4, none⟩ = some (.string (rd_T31 l0 i).f4) := (blk_cell S4.out.bk 4).trans rfl; have hcz4_5 : w4.cell? ⟨g1, 5, none⟩ = some (.int .i64 (rd_T31 l0 i).f5) := (blk_cell S4.out.bk 5).trans rfl; have hcz4_6 : w4.cell? ⟨g1, 6, none⟩ = some (.int .i64 (rd_T31 l0 i).f6) := (blk_cell S4.out.bk 6).trans rfl; have hfz4_0 := blk_frozen S4.out.bk 0; have hfz4_1 := blk_frozen S4.out.bk 1; have hfz4_2 := blk_frozen S4.out.bk 2; have hfz4_3 := blk_frozen S4.out.bk 3; have hfz4_4 := blk_frozen S4.out.bk 4; have hfz4_5 := blk_frozen S4.out.bk 5; have hfz4_6 := blk_frozen S4.out.bk 6)
                  | (have _t := tk3; go_at_call 22; (refine (turn_calls l0 k _ g1 3 #[.int .u8 (rd_T31 l0 i).f0, .slice Ao (rd_T31 l0 i).f1.length co, .int .u8 (rd_T31 l0 i).f2, .string (rd_T31 l0 i).f3, .string (rd_T31 l0 i).f4, .int .i64 (rd_T31 l0 i).f5, .int .i64 (rd_T31 l0 i).f6] (rd_T31 l0 i).f3 w.heap.size (w.heap.size + 1) k l0.length (Lib.tabBelow_of_tabIs HT.out _ S4.out.bel) S4.out.bk rfl OKX.out.1 HL.out S4.out.m5 S4.out.m6).mono ?_); intro e w5 hp; clear tk3; rw [ht] at hp; obtain ⟨rfl, hst⟩ := turn_st S4.out rfl hp; clear hp; have S5 : Aside0 (St w w5 g1 w.heap.size (w.heap.size + 1) k l0.length (cnt l0 k) (cnt l0 l0.length) u2 (.slice Ao (rd_T31 l0 i).f1.length co) out (rd_T31 l0 i).f1 #[.int .u8 (rd_T31 l0 i).f0, .slice Ao (rd_T31 l0 i).f1.length co, .int .u8 (rd_T31 l0 i).f2, .string t, .string (rd_T31 l0 i).f4, .int .i64 (rd_T31 l0 i).f5, .int .i64 (rd_T31 l0 i).f6]) := ⟨hst⟩; clear hst; have hcz5_0 : w5.cell? ⟨g1, 0, none⟩ = some (.int .u8 (rd_T31 l0 i).f0) := (blk_cell S5.out.bk 0).trans rfl; have hcz5_1 : w5.cell? ⟨g1, 1, none⟩ = some (.slice Ao (rd_T31 l0 i).f1.length co) := (blk_cell S5.out.bk 1).trans rfl; have hcz5_2 : w5.cell? ⟨g1, 2, none⟩ = some (.int .u8 (rd_T31 l0 i).f2) := (blk_cell S5.out.bk 2).trans rfl; have hcz5_3 : w5.cell? ⟨g1, 3, none⟩ = some (.string t) := (blk_cell S5.out.bk 3).trans rfl; have hcz5_4 : w5.cell? ⟨g1, 4, none⟩ = some (.string (rd_T31 l0 i).f4) := (blk_cell S5.out.bk 4).trans rfl; have hcz5_5 : w5.cell? ⟨g1, 5, none⟩ = some (.int .i64 (rd_T31 l0 i).f5) := (blk_cell S5.out.bk 5).trans rfl; have hcz5_6 : w5.cell? ⟨g1, 6, none⟩ = some (.int .i64 (rd_T31 l0 i).f6) := (blk_cell S5.out.bk 6).trans rfl; have hfz5_0 := blk_frozen S5.out.bk 0; have hfz5_1 := blk_frozen S5.out.bk 1; have hfz5_2 := blk_frozen S5.out.bk 2; have hfz5_3 := blk_frozen S5.out.bk 3; have hfz5_4 := blk_frozen S5.out.bk 4; have hfz5_5 := blk_frozen S5.out.bk 5; have hfz5_6 := blk_frozen S5.out.bk 6)
                  | (have _t := tk4; go_at_call 22; (refine (turn_calls l0 k _ g1 4 #[.int .u8 (rd_T31 l0 i).f0, .slice Ao (rd_T31 l0 i).f1.length co, .int .u8 (rd_T31 l0 i).f2, .string t, .string (rd_T31 l0 i).f4, .int .i64 (rd_T31 l0 i).f5, .int .i64 (rd_T31 l0 i).f6] (rd_T31 l0 i).f4 w.heap.size (w.heap.size + 1) k l0.length (Lib.tabBelow_of_tabIs HT.out _ S5.out.bel) S5.out.bk rfl OKX.out.2.1 HL.out S5.out.m5 S5.out.m6).mono ?_); intro e w6 hp; clear tk4; rw [ht2] at hp; obtain ⟨rfl, hst⟩ := turn_st S5.out rfl hp; clear hp; have S6 : Aside0 (St w w6 g1 w.heap.size (w.heap.size + 1) k l0.length (cnt l0 k) (cnt l0 l0.length) u2 (.slice Ao (rd_T31 l0 i).f1.length co) out (rd_T31 l0 i).f1 #[.int .u8 (rd_T31 l0 i).f0, .slice Ao (rd_T31 l0 i).f1.length co, .int .u8 (rd_T31 l0 i).f2, .string t, .string t2, .int .i64 (rd_T31 l0 i).f5, .int .i64 (rd_T31 l0 i).f6]) := ⟨hst⟩; clear hst; have hcz6_0 : w6.cell? ⟨g1, 0, none⟩ = some (.int .u8 (rd_T31 l0 i).f0) := (blk_cell S6.out.bk 0).trans rfl; have hcz6_1 : w6.cell? ⟨g1, 1, none⟩ = some (.slice Ao (rd_T31 l0 i).f1.length co) := (blk_cell S6.out.bk 1).trans rfl; have hcz6_2 : w6.cell? ⟨g1, 2, none⟩ = some (.int .u8 (rd_T31 l0 i).f2) := (blk_cell S6.out.bk 2).trans rfl; have hcz6_3 : w6.cell? ⟨g1, 3, none⟩ = some (.string t) := (blk_cell S6.out.bk 3).trans rfl; have hcz6_4 : w6.cell? ⟨g1, 4, none⟩ = some (.string t2) := (blk_cell S6.out.bk 4).trans rfl; have hcz6_5 : w6.cell? ⟨g1, 5, none⟩ = some (.int .i64 (rd_T31 l0 i).f5) := (blk_cell S6.out.bk 5).trans rfl; have hcz6_6 : w6.cell? ⟨g1, 6, none⟩ = some (.int .i64 (rd_T31 l0 i).f6) := (blk_cell S6.out.bk 6).trans rfl; have hfz6_0 := blk_frozen S6.out.bk 0; have hfz6_1 := blk_frozen S6.out.bk 1; have hfz6_2 := blk_frozen S6.out.bk 2; have hfz6_3 := blk_frozen S6.out.bk 3; have hfz6_4 := blk_frozen S6.out.bk 4; have hfz6_5 := blk_frozen S6.out.bk 5; have hfz6_6 := blk_frozen S6.out.bk 6)
                  | ((with_reducible refine gate_builtin (b := .append) (xs := #[.tmp 81, .tmp 83]) rfl ?_); at_builtin; refine Kd.S_append k31 (w0 := w) w.heap.size rfl (.tmp 81) (.tmp 83) 22 31 (.agg #[(.int .u8 0), (.slice none 0 0), (.int .u8 0), (.string ⟨#[]⟩), (.string ⟨#[]⟩), (.int .i64 0), (.int .i64 0)]) 88 rfl Tryd.underlying22 info31 rfl (by decide) (by omega) u2 out (⟨(rd_T31 l0 i).f0, (rd_T31 l0 i).f1, (rd_T31 l0 i).f2, t, t2, (rd_T31 l0 i).f5, (rd_T31 l0 i).f6⟩ : S31) [.int .u8 (rd_T31 l0 i).f0, .slice Ao (rd_T31 l0 i).f1.length co, .int .u8 (rd_T31 l0 i).f2, .string t, .string t2, .int .i64 (rd_T31 l0 i).f5, .int .i64 (rd_T31 l0 i).f6] (fun q => q ≠ w.heap.size ∧ q ≠ (w.heap.size + 1)) (fun q => some q = (.slice Ao (rd_T31 l0 i).f1.length co : Value).ownBlock) rfl rfl ?aP ?aK ?aF ?aO ?aB ?aS ?aL ?_; (case aP => exact k31_mkM _ _ _ (⟨(rd_T31 l0 i).f0, (rd_T31 l0 i).f1, (rd_T31 l0 i).f2, t, t2, (rd_T31 l0 i).f5, (rd_T31 l0 i).f6⟩ : S31) (Kd.R_tight rfl S6.out.cl)); (case aK => exact fun q hq => by have h_ := (Kd.R_apart' S6.out.cl (Kd.S_typed S6.out.row) (by decide)).1 q hq.symm; exact ⟨h_.1.2, h_.2⟩); (case aF => exact fun q hq => by have := S6.out.m5.lt; have := S6.out.m6.lt; omega); (case aO => exact Kd.S_mono S6.out.row (fun q hq => ⟨hq.1, hq.2.2⟩)); (case aB => exact S6.out.bel); (case aS => exact below_size S6.out.bel); (case aL => have := KI.out; have := HL.out; omega); intro v7 w7 ho hb hg hat; have HS7 := Aside0.mk ho; have HB7 := Aside0.mk hb; have M57 := Aside0.mk (S6.out.m5.kept hg (fun e_ => ((Kd.S_R S6.out.row).1 _ e_.symm).1.1 rfl)); have M67 := Aside0.mk (S6.out.m6.kept hg (fun e_ => ((Kd.S_R S6.out.row).1 _ e_.symm).1.2 rfl)); clear ho hb hg hat))
                go_roundg g'
                case measure => omega
                case rel => exact ⟨wrap64 (i + 1), k + 1, out ++ [(⟨(rd_T31 l0 i).f0, (rd_T31 l0 i).f1, (rd_T31 l0 i).f2, t, t2, (rd_T31 l0 i).f5, (rd_T31 l0 i).f6⟩ : S31)], rfl, ⟨by have := KI.out.1; have := HL.out; unfold wrap64; omega, by have := KI.out.2; omega, by rw [List.length_append, KI.out.2.2]; rfl⟩, RES3, HS7, ⟨(M57.out.up (Nat.le_succ _)).mono (fun s hs => by rw [cnt_succ l0 k hk s, if_neg (fun e_ => hT0 (by rw [e_, ← KI.out.1] at hs; exact hs))])⟩, M67, HB7⟩
          rw [if_neg hf3] at o1
          have kb3_0 : ((rd_T31 l0 i).f0 == 3) = false := beq_eq_false_iff_ne.mpr hf3
          clear hf3
          rw [o1] at RES2
          have RES3 := Aside0.mk RES2
          clear RES2 o1
          go_wp2_with (first
            | ((with_reducible refine gate_dst (N := 10) rfl ?_); refine box_event ?hg (N := 10) ?hd (cs := #[.int .u8 0, .slice none 0 0, .int .u8 0, .string (⟨#[]⟩ : ByteArray), .string (⟨#[]⟩ : ByteArray), .int .i64 0, .int .i64 0]) (t := 31) ?hr ?_; (case hd => rfl); (case hg => rfl); (case hr => first | (go_simp; done) | (go_simp; rfl)); intro g1 hg w2 hbox hb; have HB2 := Aside0.mk (below_step HB.out hb); have GE := Aside0.mk (show w.heap.size ≤ g1 by rw [hg]; exact below_size HB.out); have NE5 := Aside0.mk (show w.heap.size ≠ g1 by rw [hg]; exact Nat.ne_of_lt M5.out.lt); have NE6 := Aside0.mk (show (w.heap.size + 1) ≠ g1 by rw [hg]; exact Nat.ne_of_lt M6.out.lt); have M5b := Aside0.mk (M5.out.below hb); have M6b := Aside0.mk (M6.out.below hb); have HSb := Aside0.mk (Kd.S_below (Kd.S_elderB HS.out g1 (Nat.le_of_eq hg.symm)) hb); have BK := Aside0.mk hbox; clear hb hbox hg; have hcz2_0 : w2.cell? ⟨g1, 0, none⟩ = some (.int .u8 0) := (blk_cell BK.out 0).trans rfl; have hcz2_1 : w2.cell? ⟨g1, 1, none⟩ = some (.slice none 0 0) := (blk_cell BK.out 1).trans rfl; have hcz2_2 : w2.cell? ⟨g1, 2, none⟩ = some (.int .u8 0) := (blk_cell BK.out 2).trans rfl; have hcz2_3 : w2.cell? ⟨g1, 3, none⟩ = some (.string (⟨#[]⟩ : ByteArray)) := (blk_cell BK.out 3).trans rfl; have hcz2_4 : w2.cell? ⟨g1, 4, none⟩ = some (.string (⟨#[]⟩ : ByteArray)) := (blk_cell BK.out 4).trans rfl; have hcz2_5 : w2.cell? ⟨g1, 5, none⟩ = some (.int .i64 0) := (blk_cell BK.out 5).trans rfl; have hcz2_6 : w2.cell? ⟨g1, 6, none⟩ = some (.int .i64 0) := (blk_cell BK.out 6).trans rfl; have hfz2_0 := blk_frozen BK.out 0; have hfz2_1 := blk_frozen BK.out 1; have hfz2_2 := blk_frozen BK.out 2; have hfz2_3 := blk_frozen BK.out 3; have hfz2_4 := blk_frozen BK.out 4; have hfz2_5 := blk_frozen BK.out 5; have hfz2_6 := blk_frozen BK.out 6)
            | (go_at_call 20; (refine (clone_calls A1 c1 (rd_T31 l0 i).f1 _ ?s1 ?s2).mono ?_); (case s1 => exact Kd.C_below HRx.out (by repeat (first | (with_reducible first | exact HB2.out | refine below_set ?_ GE.out) | exact HB2.out))); (case s2 => exact OKX.out.2.2); rintro e w3 ⟨v1, rfl, hcl, hb⟩; obtain ⟨Ao, co, eo⟩ := Kd.R_slice hcl; subst eo; have S3 : Aside0 (St w w3 g1 w.heap.size (w.heap.size + 1) k l0.length (cnt l0 k) (cnt l0 l0.length) u2 (.slice Ao (rd_T31 l0 i).f1.length co) out (rd_T31 l0 i).f1 #[.int .u8 (rd_T31 l0 i).f0, .slice A1 (rd_T31 l0 i).f1.length c1, .int .u8 (rd_T31 l0 i).f2, .string (rd_T31 l0 i).f3, .string (rd_T31 l0 i).f4, .int .i64 (rd_T31 l0 i).f5, .int .i64 (rd_T31 l0 i).f6]) := ⟨St.made (by (with_reducible repeat (refine Kd.S_far ?_ (fun _ hk => hk.2) _)); exact HSb.out) (by (with_reducible repeat (refine IsCnt.far ?_ NE5.out _)); exact M5b.out) (by (with_reducible repeat (refine IsCnt.far ?_ NE6.out _)); exact M6b.out) GE.out NE5.out NE6.out (by repeat (first | (with_reducible first | exact HB2.out | refine below_set ?_ GE.out) | exact HB2.out)) (blk_put (cs' := #[.int .u8 (rd_T31 l0 i).f0, .slice A1 (rd_T31 l0 i).f1.length c1, .int .u8 (rd_T31 l0 i).f2, .string (rd_T31 l0 i).f3, .string (rd_T31 l0 i).f4, .int .i64 (rd_T31 l0 i).f5, .int .i64 (rd_T31 l0 i).f6]) (blk_put (cs' := #[.int .u8 (rd_T31 l0 i).f0, .slice A1 (rd_T31 l0 i).f1.length c1, .int .u8 (rd_T31 l0 i).f2, .string (rd_T31 l0 i).f3, .string (rd_T31 l0 i).f4, .int .i64 (rd_T31 l0 i).f5, .int .i64 0]) (blk_put (cs' := #[.int .u8 (rd_T31 l0 i).f0, .slice A1 (rd_T31 l0 i).f1.length c1, .int .u8 (rd_T31 l0 i).f2, .string (rd_T31 l0 i).f3, .string (rd_T31 l0 i).f4, .int .i64 0, .int .i64 0]) (blk_put (cs' := #[.int .u8 (rd_T31 l0 i).f0, .slice A1 (rd_T31 l0 i).f1.length c1, .int .u8 (rd_T31 l0 i).f2, .string (rd_T31 l0 i).f3, .string (⟨#[]⟩ : ByteArray), .int .i64 0, .int .i64 0]) (blk_put (cs' := #[.int .u8 (rd_T31 l0 i).f0, .slice A1 (rd_T31 l0 i).f1.length c1, .int .u8 (rd_T31 l0 i).f2, .string (⟨#[]⟩ : ByteArray), .string (⟨#[]⟩ : ByteArray), .int .i64 0, .int .i64 0]) (blk_put (cs' := #[.int .u8 (rd_T31 l0 i).f0, .slice A1 (rd_T31 l0 i).f1.length c1, .int .u8 0, .string (⟨#[]⟩ : ByteArray), .string (⟨#[]⟩ : ByteArray), .int .i64 0, .int .i64 0]) (blk_put (cs' := #[.int .u8 (rd_T31 l0 i).f0, .slice none 0 0, .int .u8 0, .string (⟨#[]⟩ : ByteArray), .string (⟨#[]⟩ : ByteArray), .int .i64 0, .int .i64 0]) BK.out 0 (.int .u8 (rd_T31 l0 i).f0) rfl) 1 (.slice A1 (rd_T31 l0 i).f1.length c1) rfl) 2 (.int .u8 (rd_T31 l0 i).f2) rfl) 3 (.string (rd_T31 l0 i).f3) rfl) 4 (.string (rd_T31 l0 i).f4) rfl) 5 (.int .i64 (rd_T31 l0 i).f5) rfl) 6 (.int .i64 (rd_T31 l0 i).f6) rfl) hcl hb⟩; clear hcl hb; have hcz3_0 : w3.cell? ⟨g1, 0, none⟩ = some (.int .u8 (rd_T31 l0 i).f0) := (blk_cell S3.out.bk 0).trans rfl; have hcz3_1 : w3.cell? ⟨g1, 1, none⟩ = some (.slice A1 (rd_T31 l0 i).f1.length c1) := (blk_cell S3.out.bk 1).trans rfl; have hcz3_2 : w3.cell? ⟨g1, 2, none⟩ = some (.int .u8 (rd_T31 l0 i).f2) := (blk_cell S3.out.bk 2).trans rfl; have hcz3_3 : w3.cell? ⟨g1, 3, none⟩ = some (.string (rd_T31 l0 i).f3) := (blk_cell S3.out.bk 3).trans rfl; have hcz3_4 : w3.cell? ⟨g1, 4, none⟩ = some (.string (rd_T31 l0 i).f4) := (blk_cell S3.out.bk 4).trans rfl; have hcz3_5 : w3.cell? ⟨g1, 5, none⟩ = some (.int .i64 (rd_T31 l0 i).f5) := (blk_cell S3.out.bk 5).trans rfl; have hcz3_6 : w3.cell? ⟨g1, 6, none⟩ = some (.int .i64 (rd_T31 l0 i).f6) := (blk_cell S3.out.bk 6).trans rfl; have hfz3_0 := blk_frozen S3.out.bk 0; have hfz3_1 := blk_frozen S3.out.bk 1; have hfz3_2 := blk_frozen S3.out.bk 2; have hfz3_3 := blk_frozen S3.out.bk 3; have hfz3_4 := blk_frozen S3.out.bk 4; have hfz3_5 := blk_frozen S3.out.bk 5; have hfz3_6 := blk_frozen S3.out.bk 6)
            | (go_at_call 19; (refine (labels_tells.calls (rd_T31 l0 i).f0 Ao co (rd_T31 l0 i).f1 (rd_T31 l0 i).f2 (rd_T31 l0 i).f3 (rd_T31 l0 i).f4 (rd_T31 l0 i).f5 (rd_T31 l0 i).f6 (tellsB (rd_T31 l0 i)) _ ?s1 ?s2 (tells_eq (rd_T31 l0 i))).mono ?_); (case s1 => exact (Kd.R_reads' (S3.out.set 1 (.slice Ao (rd_T31 l0 i).f1.length co)).cl).2.2); (case s2 => exact (Kd.R_reads' (S3.out.set 1 (.slice Ao (rd_T31 l0 i).f1.length co)).cl).2.1); rintro e w4 ⟨rfl, hb⟩; have S4 : Aside0 (St w w4 g1 w.heap.size (w.heap.size + 1) k l0.length (cnt l0 k) (cnt l0 l0.length) u2 (.slice Ao (rd_T31 l0 i).f1.length co) out (rd_T31 l0 i).f1 #[.int .u8 (rd_T31 l0 i).f0, .slice Ao (rd_T31 l0 i).f1.length co, .int .u8 (rd_T31 l0 i).f2, .string (rd_T31 l0 i).f3, .string (rd_T31 l0 i).f4, .int .i64 (rd_T31 l0 i).f5, .int .i64 (rd_T31 l0 i).f6]) := ⟨(S3.out.set 1 (.slice Ao (rd_T31 l0 i).f1.length co)).below hb⟩; clear hb; have hcz4_0 : w4.cell? ⟨g1, 0, none⟩ = some (.int .u8 (rd_T31 l0 i).f0) := (blk_cell S4.out.bk 0).trans rfl; have hcz4_1 : w4.cell? ⟨g1, 1, none⟩ = some (.slice Ao (rd_T31 l0 i).f1.length co) := (blk_cell S4.out.bk 1).trans rfl; have hcz4_2 : w4.cell? ⟨g1, 2, none⟩ = some (.int .u8 (rd_T31 l0 i).f2) := (blk_cell S4.out.bk 2).trans rfl; have hcz4_3 : w4.cell? ⟨g1, 3, none⟩ = some (.string (rd_T31 l0 i).f3) := (blk_cell S4.out.bk 3).trans rfl; have hcz4_4 : w4.cell? ⟨g1, 4, none⟩ = some (.string (rd_T31 l0 i).f4) := (blk_cell S4.out.bk 4).trans rfl; have hcz4_5 : w4.cell? ⟨g1, 5, none⟩ = some (.int .i64 (rd_T31 l0 i).f5) := (blk_cell S4.out.bk 5).trans rfl; have hcz4_6 : w4.cell? ⟨g1, 6, none⟩ = some (.int .i64 (rd_T31 l0 i).f6) := (blk_cell S4.out.bk 6).trans rfl; have hfz4_0 := blk_frozen S4.out.bk 0; have hfz4_1 := blk_frozen S4.out.bk 1; have hfz4_2 := blk_frozen S4.out.bk 2; have hfz4_3 := blk_frozen S4.out.bk 3; have hfz4_4 := blk_frozen S4.out.bk 4; have hfz4_5 := blk_frozen S4.out.bk 5; have hfz4_6 := blk_frozen S4.out.bk 6)
            | ((with_reducible refine gate_builtin (b := .append) (xs := #[.tmp 81, .tmp 83]) rfl ?_); at_builtin; refine Kd.S_append k31 (w0 := w) w.heap.size rfl (.tmp 81) (.tmp 83) 22 31 (.agg #[(.int .u8 0), (.slice none 0 0), (.int .u8 0), (.string ⟨#[]⟩), (.string ⟨#[]⟩), (.int .i64 0), (.int .i64 0)]) 88 rfl Tryd.underlying22 info31 rfl (by decide) (by omega) u2 out (⟨(rd_T31 l0 i).f0, (rd_T31 l0 i).f1, (rd_T31 l0 i).f2, (rd_T31 l0 i).f3, (rd_T31 l0 i).f4, (rd_T31 l0 i).f5, (rd_T31 l0 i).f6⟩ : S31) [.int .u8 (rd_T31 l0 i).f0, .slice Ao (rd_T31 l0 i).f1.length co, .int .u8 (rd_T31 l0 i).f2, .string (rd_T31 l0 i).f3, .string (rd_T31 l0 i).f4, .int .i64 (rd_T31 l0 i).f5, .int .i64 (rd_T31 l0 i).f6] (fun q => q ≠ w.heap.size ∧ q ≠ (w.heap.size + 1)) (fun q => some q = (.slice Ao (rd_T31 l0 i).f1.length co : Value).ownBlock) rfl rfl ?aP ?aK ?aF ?aO ?aB ?aS ?aL ?_; (case aP => exact k31_mkM _ _ _ (⟨(rd_T31 l0 i).f0, (rd_T31 l0 i).f1, (rd_T31 l0 i).f2, (rd_T31 l0 i).f3, (rd_T31 l0 i).f4, (rd_T31 l0 i).f5, (rd_T31 l0 i).f6⟩ : S31) (Kd.R_tight rfl S4.out.cl)); (case aK => exact fun q hq => by have h_ := (Kd.R_apart' S4.out.cl (Kd.S_typed S4.out.row) (by decide)).1 q hq.symm; exact ⟨h_.1.2, h_.2⟩); (case aF => exact fun q hq => by have := S4.out.m5.lt; have := S4.out.m6.lt; omega); (case aO => exact Kd.S_mono S4.out.row (fun q hq => ⟨hq.1, hq.2.2⟩)); (case aB => exact S4.out.bel); (case aS => exact below_size S4.out.bel); (case aL => have := KI.out; have := HL.out; omega); intro v7 w7 ho hb hg hat; have HS7 := Aside0.mk ho; have HB7 := Aside0.mk hb; have M57 := Aside0.mk (S4.out.m5.kept hg (fun e_ => ((Kd.S_R S4.out.row).1 _ e_.symm).1.1 rfl)); have M67 := Aside0.mk (S4.out.m6.kept hg (fun e_ => ((Kd.S_R S4.out.row).1 _ e_.symm).1.2 rfl)); clear ho hb hg hat))
          go_roundg g'
          case measure => omega
          case rel => exact ⟨wrap64 (i + 1), k + 1, out ++ [(⟨(rd_T31 l0 i).f0, (rd_T31 l0 i).f1, (rd_T31 l0 i).f2, (rd_T31 l0 i).f3, (rd_T31 l0 i).f4, (rd_T31 l0 i).f5, (rd_T31 l0 i).f6⟩ : S31)], rfl, ⟨by have := KI.out.1; have := HL.out; unfold wrap64; omega, by have := KI.out.2; omega, by rw [List.length_append, KI.out.2.2]; rfl⟩, RES3, HS7, ⟨(M57.out.up (Nat.le_succ _)).mono (fun s hs => by rw [cnt_succ l0 k hk s, if_neg (fun e_ => hT0 (by rw [e_, ← KI.out.1] at hs; exact hs))])⟩, M67, HB7⟩
        · obtain rfl : k = l0.length := by have := KI.out; omega
          obtain rfl : gk = 0 := by have := KI.out; omega
          have q1b : decide (i < (l0.length : Int)) = false := decide_eq_false (by have := KI.out; omega)
          have RES2 := RES.out
          simp only [renameFrom, Prod.mk.injEq] at RES2
          obtain ⟨rfl, rfl, rfl⟩ := RES2
          go_wp2
          go_ret3
          exact ⟨_, rfl, Kd.S_mono HS.out (fun _ _ => trivial), HB.out⟩

end Go.Proofs.YtkjmbfabgkppaaaDoor.P
