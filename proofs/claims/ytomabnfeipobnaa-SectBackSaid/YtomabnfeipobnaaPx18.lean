-- Written by pext.py, a program of this session, over the kit's print: a function's contract
import Derived.Test.YtomabnfeipobnaaPx0
import Derived.Test.YtomabnfeipobnaaPx7
namespace Go.Proofs.Ytomabnfeipobnaa.P
open Go.RowKit Go.Proofs.YtomabnfeipobnaaW.PrintWords Go.Proofs.YtomabnfeipobnaaW.PrintLast Go.Proofs.YtomabnfeipobnaaW.PrintMore
attribute [local go_sem] max2_int min2_int max_two min_two max_three min_three max_four min_four   -- for this text's walks alone
set_option linter.unusedVariables false
set_option linter.unusedSimpArgs false


/-! ### sect_Read: function 29 -/
abbrev sect_Read.fieldCells (g : Nat) : Array Value := #[.pointer (some ⟨g, 0, none⟩), .int .i64 4, .pointer (some ⟨g, 1, none⟩), .int .i64 4, .pointer (some ⟨g, 2, none⟩), .int .i64 8, .pointer (some ⟨g, 3, none⟩), .int .i64 8, .pointer (some ⟨g, 4, none⟩), .int .i64 8, .pointer (some ⟨g, 5, none⟩), .int .i64 8, .pointer (some ⟨g, 6, none⟩), .int .i64 4, .pointer (some ⟨g, 7, none⟩), .int .i64 4, .pointer (some ⟨g, 8, none⟩), .int .i64 8, .pointer (some ⟨g, 9, none⟩), .int .i64 8]
set_option maxHeartbeats 4000000 in
set_option maxRecDepth 1000000 in
theorem sect_Read.fields_calls (g : Nat) (w : World) : Calls Try.prog 67 #[.pointer (some ⟨g, 0, none⟩)] w fun e w' =>
    e = .returned (.slice (some ⟨w.heap.size, 0, none⟩) 10 10) ∧ w' = w.drew.alloc (.cells (sect_Read.fieldCells g) 102) := by
  go_enter Try.func67, Try.ntmps67
  go_wp2
  go_still_tail 40, (by kernel_rfl)
  change wpList _ _ _ _ _ w.drew
  go_wp2
  go_ret
  exact ⟨rfl, rfl⟩
abbrev sect_Read.accCells (acc : List Int) : Array Value := #[.int .i64 (acc.getD 0 0), .int .i64 (acc.getD 1 0), .int .i64 (acc.getD 2 0), .int .i64 (acc.getD 3 0), .int .i64 (acc.getD 4 0), .int .i64 (acc.getD 5 0), .int .i64 (acc.getD 6 0), .int .i64 (acc.getD 7 0), .int .i64 (acc.getD 8 0), .int .i64 (acc.getD 9 0)]
theorem sect_Read.accCells_set (acc : List Int) (q : Int) (h : acc.length < 10) : (sect_Read.accCells acc).setIfInBounds acc.length (.int .i64 q) = sect_Read.accCells (acc ++ [q]) := by
  have e : ∀ i : Nat, (acc ++ [q]).getD i 0 = if i = acc.length then q else acc.getD i 0 := by
    intro i
    simp only [List.getD_eq_getElem?_getD, List.getElem?_append]
    by_cases h1 : i < acc.length
    · rw [if_pos h1, if_neg (by omega)]
    · rw [if_neg h1]
      by_cases h2 : i = acc.length
      · subst h2; simp
      · rw [if_neg h2]
        have : i - acc.length ≠ 0 := by omega
        rw [show acc[i]? = none from List.getElem?_eq_none (by omega)]
        obtain ⟨m, hm⟩ : ∃ m, i - acc.length = m + 1 := ⟨i - acc.length - 1, by omega⟩
        rw [hm]; rfl
  generalize acc.length = n at h e
  unfold sect_Read.accCells
  simp only [e]
  rcases (show n = 0 ∨ n = 1 ∨ n = 2 ∨ n = 3 ∨ n = 4 ∨ n = 5 ∨ n = 6 ∨ n = 7 ∨ n = 8 ∨ n = 9 by omega) with rfl | rfl | rfl | rfl | rfl | rfl | rfl | rfl | rfl | rfl <;> rfl
def sect_Read.go (k : Nat) (l0 : List Int) : List Int → Int → List Int → Option (List Int × Int)
  | [], _, acc => some (acc, 0)
  | s :: l, x, acc => (le_Get.f k l0 x s).bind fun q => if q.2 = 0 then (if q.1 < 0 then some ([], 8) else sect_Read.go k l0 l (wrap64 (x + s)) (acc ++ [q.1])) else some ([], 8)
def sect_Read.f (k : Nat) (l0 : List Int) : Option (Int × Int × Int × Int × Int × Int × Int × Int × Int × Int × Int) := if (l0.length : Int) = 64 then (sect_Read.go k l0 [4, 4, 8, 8, 8, 8, 4, 4, 8, 8] 0 []).map fun q => (q.1.getD 0 0, q.1.getD 1 0, q.1.getD 2 0, q.1.getD 3 0, q.1.getD 4 0, q.1.getD 5 0, q.1.getD 6 0, q.1.getD 7 0, q.1.getD 8 0, q.1.getD 9 0, q.2) else some (0, 0, 0, 0, 0, 0, 0, 0, 0, 0, 3)
theorem sect_Read.go_mono (k : Nat) (l0 : List Int) : ∀ (l : List Int) (x : Int) (acc : List Int), LeO (sect_Read.go k l0 l x acc) (sect_Read.go (k + 1) l0 l x acc)
  | [], _, _ => LeO.refl _
  | s :: l, x, acc => by
    unfold sect_Read.go
    refine LeO.bind (le_Get.mono _ _ _ _) (fun q => ?_)
    by_cases h : q.2 = 0
    · rw [if_pos h, if_pos h]
      by_cases h2 : q.1 < 0
      · rw [if_pos h2, if_pos h2]; exact LeO.refl _
      · rw [if_neg h2, if_neg h2]; exact sect_Read.go_mono k l0 l _ _
    · rw [if_neg h, if_neg h]; exact LeO.refl _
theorem sect_Read.mono (l0 : List Int) (k : Nat) : LeO (sect_Read.f k l0) (sect_Read.f (k + 1) l0) := by
  intro r h
  unfold sect_Read.f at h ⊢
  by_cases c : (l0.length : Int) = 64
  · rw [if_pos c] at h ⊢
    obtain ⟨q, hq, rfl⟩ := Option.map_eq_some_iff.mp h
    exact Option.map_eq_some_iff.mpr ⟨q, sect_Read.go_mono k l0 _ _ _ _ hq, rfl⟩
  · rw [if_neg c] at h ⊢; exact h
set_option maxHeartbeats 4000000 in
set_option maxRecDepth 1000000 in
theorem sect_Read.calls (k : Nat) (A0 : Option Addr) (c0 : Nat) (l0 : List Int) (r1 r2 r3 r4 r5 r6 r7 r8 r9 r10 r11 : Int) (w : World) (hr0 : Kd.C (Kd.int .u8) w A0 l0.length l0) (hc0 : l0.length ≤ c0) (h : sect_Read.f k l0 = some (r1, r2, r3, r4, r5, r6, r7, r8, r9, r10, r11)) :
    Calls Try.prog 29 #[.slice A0 l0.length c0] w fun e w' => e = .returned (.tuple #[.agg #[.int .i64 r1, .int .i64 r2, .int .i64 r3, .int .i64 r4, .int .i64 r5, .int .i64 r6, .int .i64 r7, .int .i64 r8, .int .i64 r9, .int .i64 r10], .int .i64 r11]) ∧ Below w.heap.size w w' := by
  unfold sect_Read.f at h
  have huH := Try.underlying23
  by_cases hl : (l0.length : Int) = 64
  · rw [if_pos hl] at h
    obtain ⟨⟨rs, r0⟩, H, h⟩ := Option.map_eq_some_iff.mp h
    simp only [Prod.mk.injEq] at h
    obtain ⟨rfl, rfl, rfl, rfl, rfl, rfl, rfl, rfl, rfl, rfl, rfl⟩ := h
    have hlb : ((l0.length : Int) != 64) = false := bne_eq_false_iff_eq.mpr hl
    have HR0 := Aside0.mk hr0
    clear hr0 hl
    go_enter Try.func29, Try.ntmps29
    go_wp2_with (go_at_call 67; refine (sect_Read.fields_calls _ _).mono ?_; rintro e W' ⟨rfl, rfl⟩)
    go_outline
    go_loopg [4, 15] 11 (fun gf v4 v15 wr => ∃ (j : Nat) (x : Int) (acc : List Int), j + gf = 11 ∧ j ≤ 10 ∧ acc.length = j ∧ v4 = .int .i64 x ∧ v15 = .int .i64 j ∧ sect_Read.go k l0 (([4, 4, 8, 8, 8, 8, 4, 4, 8, 8] : List Int).drop j) x acc = some (rs, r0)
      ∧ wr.heap[w.heap.size]? = some (.cells (sect_Read.accCells acc) 23 (0, 0)) ∧ wr.heap[w.heap.size + 1]? = some (.cells (sect_Read.fieldCells w.heap.size) 102 (0, 0)) ∧ Below w.heap.size w wr)
    case atStart =>
      exact ⟨0, 0, [], rfl, by omega, rfl, rfl, rfl, H, blk_alloc (blk_drew (blk_new w _)) _, by rw [show w.heap.size + 1 = (w.alloc (.cells (sect_Read.accCells []) 23)).heap.size by simp]; exact blk_new (w.alloc _).drew _, below_alloc (below_drew1 (below_alloc (Below.refl _ _) _)) _⟩
    case round =>
      obtain ⟨j, x, acc, hj, hj10, hacc, rfl, rfl, HA, hb0, hb1, hB⟩ := hrel
      by_cases hlt : j < 10
      · obtain ⟨s, rest, hdrop, hc0', hc1⟩ : ∃ (s : Int) (rest : List Int), ([4, 4, 8, 8, 8, 8, 4, 4, 8, 8] : List Int).drop j = s :: rest ∧ wr.cell? ⟨w.heap.size + 1, j * 2, none⟩ = some (.pointer (some ⟨w.heap.size, j, none⟩)) ∧
            wr.cell? ⟨w.heap.size + 1, j * 2 + 1, none⟩ = some (.int .i64 s) := by
          clear hacc HA
          rcases (show j = 0 ∨ j = 1 ∨ j = 2 ∨ j = 3 ∨ j = 4 ∨ j = 5 ∨ j = 6 ∨ j = 7 ∨ j = 8 ∨ j = 9 by omega) with rfl | rfl | rfl | rfl | rfl | rfl | rfl | rfl | rfl | rfl <;>
            exact ⟨_, _, rfl, (blk_cell hb1 _).trans rfl, (blk_cell hb1 _).trans rfl⟩
        have hrest : ([4, 4, 8, 8, 8, 8, 4, 4, 8, 8] : List Int).drop (j + 1) = rest := by rw [← List.drop_drop, hdrop]; rfl
        rw [hdrop] at HA
        have hlen := blk_lt hb1
        have hcB : wr.cell? ⟨w.heap.size, j, none⟩ = some (.int .i64 (acc.getD j 0)) := by
          clear hacc HA
          rcases (show j = 0 ∨ j = 1 ∨ j = 2 ∨ j = 3 ∨ j = 4 ∨ j = 5 ∨ j = 6 ∨ j = 7 ∨ j = 8 ∨ j = 9 by omega) with rfl | rfl | rfl | rfl | rfl | rfl | rfl | rfl | rfl | rfl <;>
            exact (blk_cell hb0 _).trans rfl
        have hfB := blk_frozen hb0 j
        have HA' := Aside0.mk HA
        have HB0 := Aside0.mk hb0
        have HB1 := Aside0.mk hb1
        have HBB := Aside0.mk hB
        have HD := Aside0.mk hrest
        have HACC := Aside0.mk hacc
        clear HA hb0 hb1 hB hdrop hrest hacc
        have hlF : w.heap.size < wr.heap.size := by omega
        have HAx := HA'.out
        clear HA'
        simp only [sect_Read.go] at HAx
        obtain ⟨⟨q1, q2⟩, HP0, HQ0⟩ := Option.bind_eq_some_iff.mp HAx
        have HP := Aside0.mk HP0
        have HQ1 : (if q2 = 0 then (if q1 < 0 then some ([], 8) else sect_Read.go k l0 rest (wrap64 (x + s)) (acc ++ [q1])) else some ([], 8)) = some (rs, r0) := HQ0
        clear HAx HP0 HQ0
        by_cases hq : q2 = 0
        · subst hq
          rw [if_pos rfl] at HQ1
          by_cases hn : q1 < 0
          · rw [if_pos hn] at HQ1
            simp only [Option.some.injEq, Prod.mk.injEq] at HQ1
            obtain ⟨rfl, rfl⟩ := HQ1
            go_wp2_with (go_at_call 71; (with_reducible refine (le_Get.calls k A0 c0 l0 x s q1 _ _ (Kd.C_alloc (Kd.C_below HR0.out HBB.out) _) hc0 HP.out).mono ?_); rintro e w1 ⟨rfl, ⟨nd, rfl⟩⟩; have fc0 : ((wr.alloc (.cells #[.pointer (some ⟨w.heap.size, j, none⟩), .int .i64 s] 102)).drewN nd).cell? ⟨wr.heap.size, 0, none⟩ = some (.pointer (some ⟨w.heap.size, j, none⟩)) := (cell_of_row _ wr.heap.size 0 _ 102 (0, 0) (heap_alloc_new wr _)).trans rfl; have fc1 : ((wr.alloc (.cells #[.pointer (some ⟨w.heap.size, j, none⟩), .int .i64 s] 102)).drewN nd).cell? ⟨wr.heap.size, 1, none⟩ = some (.int .i64 s) := (cell_of_row _ wr.heap.size 1 _ 102 (0, 0) (heap_alloc_new wr _)).trans rfl; have gcB : ((wr.alloc (.cells #[.pointer (some ⟨w.heap.size, j, none⟩), .int .i64 s] 102)).drewN nd).cell? ⟨w.heap.size, j, none⟩ = some (.int .i64 (acc.getD j 0)) := (World.cell?_alloc_lt _ _ _ hlF).trans hcB; have gb0 := blk_drewN (blk_alloc HB0.out (.cells #[.pointer (some ⟨w.heap.size, j, none⟩), .int .i64 s] 102)) nd; have gb1 := blk_drewN (blk_alloc HB1.out (.cells #[.pointer (some ⟨w.heap.size, j, none⟩), .int .i64 s] 102)) nd; have gB := pw_below_drewN (below_alloc HBB.out (.cells #[.pointer (some ⟨w.heap.size, j, none⟩), .int .i64 s] 102)) nd; have gF : wr.heap.size < ((wr.alloc (.cells #[.pointer (some ⟨w.heap.size, j, none⟩), .int .i64 s] 102)).drewN nd).heap.size := (by rw [show ((wr.alloc (.cells #[.pointer (some ⟨w.heap.size, j, none⟩), .int .i64 s] 102)).drewN nd).heap.size = (wr.alloc (.cells #[.pointer (some ⟨w.heap.size, j, none⟩), .int .i64 s] 102)).heap.size from rfl]; simp); have gf0 := blk_frozen gb0 j; have gc0 := (blk_cell gb0 0).trans (show _ = some (Value.int .i64 (acc.getD 0 0)) from rfl); have gf0_ := blk_frozen gb0 0; have gc1 := (blk_cell gb0 1).trans (show _ = some (Value.int .i64 (acc.getD 1 0)) from rfl); have gf1_ := blk_frozen gb0 1; have gc2 := (blk_cell gb0 2).trans (show _ = some (Value.int .i64 (acc.getD 2 0)) from rfl); have gf2_ := blk_frozen gb0 2; have gc3 := (blk_cell gb0 3).trans (show _ = some (Value.int .i64 (acc.getD 3 0)) from rfl); have gf3_ := blk_frozen gb0 3; have gc4 := (blk_cell gb0 4).trans (show _ = some (Value.int .i64 (acc.getD 4 0)) from rfl); have gf4_ := blk_frozen gb0 4; have gc5 := (blk_cell gb0 5).trans (show _ = some (Value.int .i64 (acc.getD 5 0)) from rfl); have gf5_ := blk_frozen gb0 5; have gc6 := (blk_cell gb0 6).trans (show _ = some (Value.int .i64 (acc.getD 6 0)) from rfl); have gf6_ := blk_frozen gb0 6; have gc7 := (blk_cell gb0 7).trans (show _ = some (Value.int .i64 (acc.getD 7 0)) from rfl); have gf7_ := blk_frozen gb0 7; have gc8 := (blk_cell gb0 8).trans (show _ = some (Value.int .i64 (acc.getD 8 0)) from rfl); have gf8_ := blk_frozen gb0 8; have gc9 := (blk_cell gb0 9).trans (show _ = some (Value.int .i64 (acc.getD 9 0)) from rfl); have gf9_ := blk_frozen gb0 9; clear HB0 HB1 HBB hcB hfB; have HB0 := Aside0.mk gb0; have HB1 := Aside0.mk gb1; have HBB := Aside0.mk gB; clear gb0 gb1 gB; generalize (wr.alloc (.cells #[.pointer (some ⟨w.heap.size, j, none⟩), .int .i64 s] 102)).drewN nd = W at *)
            refine bodyPost_ret (results_ct rfl _ _ w.heap.size 23 #[.int .i64 0, .int .i64 0, .int .i64 0, .int .i64 0, .int .i64 0, .int .i64 0, .int .i64 0, .int .i64 0, .int .i64 0, .int .i64 0] (0, 0) _ rfl (by refine blk_put (cs := #[.int .i64 0, .int .i64 0, .int .i64 0, .int .i64 0, .int .i64 0, .int .i64 0, .int .i64 0, .int .i64 0, .int .i64 0, .int .i64 (acc.getD 9 0)]) ?_ 9 _ rfl; refine blk_put (cs := #[.int .i64 0, .int .i64 0, .int .i64 0, .int .i64 0, .int .i64 0, .int .i64 0, .int .i64 0, .int .i64 0, .int .i64 (acc.getD 8 0), .int .i64 (acc.getD 9 0)]) ?_ 8 _ rfl; refine blk_put (cs := #[.int .i64 0, .int .i64 0, .int .i64 0, .int .i64 0, .int .i64 0, .int .i64 0, .int .i64 0, .int .i64 (acc.getD 7 0), .int .i64 (acc.getD 8 0), .int .i64 (acc.getD 9 0)]) ?_ 7 _ rfl; refine blk_put (cs := #[.int .i64 0, .int .i64 0, .int .i64 0, .int .i64 0, .int .i64 0, .int .i64 0, .int .i64 (acc.getD 6 0), .int .i64 (acc.getD 7 0), .int .i64 (acc.getD 8 0), .int .i64 (acc.getD 9 0)]) ?_ 6 _ rfl; refine blk_put (cs := #[.int .i64 0, .int .i64 0, .int .i64 0, .int .i64 0, .int .i64 0, .int .i64 (acc.getD 5 0), .int .i64 (acc.getD 6 0), .int .i64 (acc.getD 7 0), .int .i64 (acc.getD 8 0), .int .i64 (acc.getD 9 0)]) ?_ 5 _ rfl; refine blk_put (cs := #[.int .i64 0, .int .i64 0, .int .i64 0, .int .i64 0, .int .i64 (acc.getD 4 0), .int .i64 (acc.getD 5 0), .int .i64 (acc.getD 6 0), .int .i64 (acc.getD 7 0), .int .i64 (acc.getD 8 0), .int .i64 (acc.getD 9 0)]) ?_ 4 _ rfl; refine blk_put (cs := #[.int .i64 0, .int .i64 0, .int .i64 0, .int .i64 (acc.getD 3 0), .int .i64 (acc.getD 4 0), .int .i64 (acc.getD 5 0), .int .i64 (acc.getD 6 0), .int .i64 (acc.getD 7 0), .int .i64 (acc.getD 8 0), .int .i64 (acc.getD 9 0)]) ?_ 3 _ rfl; refine blk_put (cs := #[.int .i64 0, .int .i64 0, .int .i64 (acc.getD 2 0), .int .i64 (acc.getD 3 0), .int .i64 (acc.getD 4 0), .int .i64 (acc.getD 5 0), .int .i64 (acc.getD 6 0), .int .i64 (acc.getD 7 0), .int .i64 (acc.getD 8 0), .int .i64 (acc.getD 9 0)]) ?_ 2 _ rfl; refine blk_put (cs := #[.int .i64 0, .int .i64 (acc.getD 1 0), .int .i64 (acc.getD 2 0), .int .i64 (acc.getD 3 0), .int .i64 (acc.getD 4 0), .int .i64 (acc.getD 5 0), .int .i64 (acc.getD 6 0), .int .i64 (acc.getD 7 0), .int .i64 (acc.getD 8 0), .int .i64 (acc.getD 9 0)]) ?_ 1 _ rfl; refine blk_put (cs := #[.int .i64 (acc.getD 0 0), .int .i64 (acc.getD 1 0), .int .i64 (acc.getD 2 0), .int .i64 (acc.getD 3 0), .int .i64 (acc.getD 4 0), .int .i64 (acc.getD 5 0), .int .i64 (acc.getD 6 0), .int .i64 (acc.getD 7 0), .int .i64 (acc.getD 8 0), .int .i64 (acc.getD 9 0)]) ?_ 0 _ rfl; exact HB0.out) Try.underlying23 rfl (by kernel_rfl)) rfl ?_
            exact ⟨rfl, (by repeat (with_reducible first | exact HBB.out | refine below_set ?_ (Nat.le_refl _) | (with_reducible apply pw_below_drewN) | (with_reducible apply below_drew1) | (with_reducible apply below_alloc)))⟩
          · rw [if_neg hn] at HQ1
            have HQ := Aside0.mk HQ1
            clear HQ1
            go_wp2_with (go_at_call 71; (with_reducible refine (le_Get.calls k A0 c0 l0 x s q1 _ _ (Kd.C_alloc (Kd.C_below HR0.out HBB.out) _) hc0 HP.out).mono ?_); rintro e w1 ⟨rfl, ⟨nd, rfl⟩⟩; have fc0 : ((wr.alloc (.cells #[.pointer (some ⟨w.heap.size, j, none⟩), .int .i64 s] 102)).drewN nd).cell? ⟨wr.heap.size, 0, none⟩ = some (.pointer (some ⟨w.heap.size, j, none⟩)) := (cell_of_row _ wr.heap.size 0 _ 102 (0, 0) (heap_alloc_new wr _)).trans rfl; have fc1 : ((wr.alloc (.cells #[.pointer (some ⟨w.heap.size, j, none⟩), .int .i64 s] 102)).drewN nd).cell? ⟨wr.heap.size, 1, none⟩ = some (.int .i64 s) := (cell_of_row _ wr.heap.size 1 _ 102 (0, 0) (heap_alloc_new wr _)).trans rfl; have gcB : ((wr.alloc (.cells #[.pointer (some ⟨w.heap.size, j, none⟩), .int .i64 s] 102)).drewN nd).cell? ⟨w.heap.size, j, none⟩ = some (.int .i64 (acc.getD j 0)) := (World.cell?_alloc_lt _ _ _ hlF).trans hcB; have gb0 := blk_drewN (blk_alloc HB0.out (.cells #[.pointer (some ⟨w.heap.size, j, none⟩), .int .i64 s] 102)) nd; have gb1 := blk_drewN (blk_alloc HB1.out (.cells #[.pointer (some ⟨w.heap.size, j, none⟩), .int .i64 s] 102)) nd; have gB := pw_below_drewN (below_alloc HBB.out (.cells #[.pointer (some ⟨w.heap.size, j, none⟩), .int .i64 s] 102)) nd; have gF : wr.heap.size < ((wr.alloc (.cells #[.pointer (some ⟨w.heap.size, j, none⟩), .int .i64 s] 102)).drewN nd).heap.size := (by rw [show ((wr.alloc (.cells #[.pointer (some ⟨w.heap.size, j, none⟩), .int .i64 s] 102)).drewN nd).heap.size = (wr.alloc (.cells #[.pointer (some ⟨w.heap.size, j, none⟩), .int .i64 s] 102)).heap.size from rfl]; simp); have gf0 := blk_frozen gb0 j;  clear HB0 HB1 HBB hcB hfB; have HB0 := Aside0.mk gb0; have HB1 := Aside0.mk gb1; have HBB := Aside0.mk gB; clear gb0 gb1 gB; generalize (wr.alloc (.cells #[.pointer (some ⟨w.heap.size, j, none⟩), .int .i64 s] 102)).drewN nd = W at *)
            cases gk with
            | zero => exact absurd hj (by omega)
            | succ k3 =>
              go_roundg k3
              case measure => omega
              case rel => exact ⟨j + 1, wrap64 (x + s), acc ++ [q1], by omega, by omega, by rw [List.length_append]; exact congrArg (· + 1) HACC.out, rfl, rfl, by rw [HD.out]; exact HQ.out, blk_put HB0.out j _ (by rw [← HACC.out]; exact sect_Read.accCells_set acc q1 (by rw [HACC.out]; exact hlt)), (blk_far HB1.out (p := ⟨w.heap.size, j, none⟩) (by simp) _), below_set HBB.out (Nat.le_refl _)⟩
        · rw [if_neg hq] at HQ1
          simp only [Option.some.injEq, Prod.mk.injEq] at HQ1
          obtain ⟨rfl, rfl⟩ := HQ1
          go_wp2_with (go_at_call 71; (with_reducible refine (le_Get.calls k A0 c0 l0 x s q1 _ _ (Kd.C_alloc (Kd.C_below HR0.out HBB.out) _) hc0 HP.out).mono ?_); rintro e w1 ⟨rfl, ⟨nd, rfl⟩⟩; have fc0 : ((wr.alloc (.cells #[.pointer (some ⟨w.heap.size, j, none⟩), .int .i64 s] 102)).drewN nd).cell? ⟨wr.heap.size, 0, none⟩ = some (.pointer (some ⟨w.heap.size, j, none⟩)) := (cell_of_row _ wr.heap.size 0 _ 102 (0, 0) (heap_alloc_new wr _)).trans rfl; have fc1 : ((wr.alloc (.cells #[.pointer (some ⟨w.heap.size, j, none⟩), .int .i64 s] 102)).drewN nd).cell? ⟨wr.heap.size, 1, none⟩ = some (.int .i64 s) := (cell_of_row _ wr.heap.size 1 _ 102 (0, 0) (heap_alloc_new wr _)).trans rfl; have gcB : ((wr.alloc (.cells #[.pointer (some ⟨w.heap.size, j, none⟩), .int .i64 s] 102)).drewN nd).cell? ⟨w.heap.size, j, none⟩ = some (.int .i64 (acc.getD j 0)) := (World.cell?_alloc_lt _ _ _ hlF).trans hcB; have gb0 := blk_drewN (blk_alloc HB0.out (.cells #[.pointer (some ⟨w.heap.size, j, none⟩), .int .i64 s] 102)) nd; have gb1 := blk_drewN (blk_alloc HB1.out (.cells #[.pointer (some ⟨w.heap.size, j, none⟩), .int .i64 s] 102)) nd; have gB := pw_below_drewN (below_alloc HBB.out (.cells #[.pointer (some ⟨w.heap.size, j, none⟩), .int .i64 s] 102)) nd; have gF : wr.heap.size < ((wr.alloc (.cells #[.pointer (some ⟨w.heap.size, j, none⟩), .int .i64 s] 102)).drewN nd).heap.size := (by rw [show ((wr.alloc (.cells #[.pointer (some ⟨w.heap.size, j, none⟩), .int .i64 s] 102)).drewN nd).heap.size = (wr.alloc (.cells #[.pointer (some ⟨w.heap.size, j, none⟩), .int .i64 s] 102)).heap.size from rfl]; simp); have gf0 := blk_frozen gb0 j; have gc0 := (blk_cell gb0 0).trans (show _ = some (Value.int .i64 (acc.getD 0 0)) from rfl); have gf0_ := blk_frozen gb0 0; have gc1 := (blk_cell gb0 1).trans (show _ = some (Value.int .i64 (acc.getD 1 0)) from rfl); have gf1_ := blk_frozen gb0 1; have gc2 := (blk_cell gb0 2).trans (show _ = some (Value.int .i64 (acc.getD 2 0)) from rfl); have gf2_ := blk_frozen gb0 2; have gc3 := (blk_cell gb0 3).trans (show _ = some (Value.int .i64 (acc.getD 3 0)) from rfl); have gf3_ := blk_frozen gb0 3; have gc4 := (blk_cell gb0 4).trans (show _ = some (Value.int .i64 (acc.getD 4 0)) from rfl); have gf4_ := blk_frozen gb0 4; have gc5 := (blk_cell gb0 5).trans (show _ = some (Value.int .i64 (acc.getD 5 0)) from rfl); have gf5_ := blk_frozen gb0 5; have gc6 := (blk_cell gb0 6).trans (show _ = some (Value.int .i64 (acc.getD 6 0)) from rfl); have gf6_ := blk_frozen gb0 6; have gc7 := (blk_cell gb0 7).trans (show _ = some (Value.int .i64 (acc.getD 7 0)) from rfl); have gf7_ := blk_frozen gb0 7; have gc8 := (blk_cell gb0 8).trans (show _ = some (Value.int .i64 (acc.getD 8 0)) from rfl); have gf8_ := blk_frozen gb0 8; have gc9 := (blk_cell gb0 9).trans (show _ = some (Value.int .i64 (acc.getD 9 0)) from rfl); have gf9_ := blk_frozen gb0 9; clear HB0 HB1 HBB hcB hfB; have HB0 := Aside0.mk gb0; have HB1 := Aside0.mk gb1; have HBB := Aside0.mk gB; clear gb0 gb1 gB; generalize (wr.alloc (.cells #[.pointer (some ⟨w.heap.size, j, none⟩), .int .i64 s] 102)).drewN nd = W at *)
          refine bodyPost_ret (results_ct rfl _ _ w.heap.size 23 #[.int .i64 0, .int .i64 0, .int .i64 0, .int .i64 0, .int .i64 0, .int .i64 0, .int .i64 0, .int .i64 0, .int .i64 0, .int .i64 0] (0, 0) _ rfl (by refine blk_put (cs := #[.int .i64 0, .int .i64 0, .int .i64 0, .int .i64 0, .int .i64 0, .int .i64 0, .int .i64 0, .int .i64 0, .int .i64 0, .int .i64 (acc.getD 9 0)]) ?_ 9 _ rfl; refine blk_put (cs := #[.int .i64 0, .int .i64 0, .int .i64 0, .int .i64 0, .int .i64 0, .int .i64 0, .int .i64 0, .int .i64 0, .int .i64 (acc.getD 8 0), .int .i64 (acc.getD 9 0)]) ?_ 8 _ rfl; refine blk_put (cs := #[.int .i64 0, .int .i64 0, .int .i64 0, .int .i64 0, .int .i64 0, .int .i64 0, .int .i64 0, .int .i64 (acc.getD 7 0), .int .i64 (acc.getD 8 0), .int .i64 (acc.getD 9 0)]) ?_ 7 _ rfl; refine blk_put (cs := #[.int .i64 0, .int .i64 0, .int .i64 0, .int .i64 0, .int .i64 0, .int .i64 0, .int .i64 (acc.getD 6 0), .int .i64 (acc.getD 7 0), .int .i64 (acc.getD 8 0), .int .i64 (acc.getD 9 0)]) ?_ 6 _ rfl; refine blk_put (cs := #[.int .i64 0, .int .i64 0, .int .i64 0, .int .i64 0, .int .i64 0, .int .i64 (acc.getD 5 0), .int .i64 (acc.getD 6 0), .int .i64 (acc.getD 7 0), .int .i64 (acc.getD 8 0), .int .i64 (acc.getD 9 0)]) ?_ 5 _ rfl; refine blk_put (cs := #[.int .i64 0, .int .i64 0, .int .i64 0, .int .i64 0, .int .i64 (acc.getD 4 0), .int .i64 (acc.getD 5 0), .int .i64 (acc.getD 6 0), .int .i64 (acc.getD 7 0), .int .i64 (acc.getD 8 0), .int .i64 (acc.getD 9 0)]) ?_ 4 _ rfl; refine blk_put (cs := #[.int .i64 0, .int .i64 0, .int .i64 0, .int .i64 (acc.getD 3 0), .int .i64 (acc.getD 4 0), .int .i64 (acc.getD 5 0), .int .i64 (acc.getD 6 0), .int .i64 (acc.getD 7 0), .int .i64 (acc.getD 8 0), .int .i64 (acc.getD 9 0)]) ?_ 3 _ rfl; refine blk_put (cs := #[.int .i64 0, .int .i64 0, .int .i64 (acc.getD 2 0), .int .i64 (acc.getD 3 0), .int .i64 (acc.getD 4 0), .int .i64 (acc.getD 5 0), .int .i64 (acc.getD 6 0), .int .i64 (acc.getD 7 0), .int .i64 (acc.getD 8 0), .int .i64 (acc.getD 9 0)]) ?_ 2 _ rfl; refine blk_put (cs := #[.int .i64 0, .int .i64 (acc.getD 1 0), .int .i64 (acc.getD 2 0), .int .i64 (acc.getD 3 0), .int .i64 (acc.getD 4 0), .int .i64 (acc.getD 5 0), .int .i64 (acc.getD 6 0), .int .i64 (acc.getD 7 0), .int .i64 (acc.getD 8 0), .int .i64 (acc.getD 9 0)]) ?_ 1 _ rfl; refine blk_put (cs := #[.int .i64 (acc.getD 0 0), .int .i64 (acc.getD 1 0), .int .i64 (acc.getD 2 0), .int .i64 (acc.getD 3 0), .int .i64 (acc.getD 4 0), .int .i64 (acc.getD 5 0), .int .i64 (acc.getD 6 0), .int .i64 (acc.getD 7 0), .int .i64 (acc.getD 8 0), .int .i64 (acc.getD 9 0)]) ?_ 0 _ rfl; exact HB0.out) Try.underlying23 rfl (by kernel_rfl)) rfl ?_
          exact ⟨rfl, (by repeat (with_reducible first | exact HBB.out | refine below_set ?_ (Nat.le_refl _) | (with_reducible apply pw_below_drewN) | (with_reducible apply below_drew1) | (with_reducible apply below_alloc)))⟩
      · have hj10' : j = 10 := by omega
        subst hj10'
        have HA' : some (acc, (0 : Int)) = some (rs, r0) := HA
        simp only [Option.some.injEq, Prod.mk.injEq] at HA'
        obtain ⟨rfl, rfl⟩ := HA'
        clear HA hacc
        have gc0 := (blk_cell hb0 0).trans (show _ = some (Value.int .i64 (acc.getD 0 0)) from rfl); have gf0_ := blk_frozen hb0 0; have gc1 := (blk_cell hb0 1).trans (show _ = some (Value.int .i64 (acc.getD 1 0)) from rfl); have gf1_ := blk_frozen hb0 1; have gc2 := (blk_cell hb0 2).trans (show _ = some (Value.int .i64 (acc.getD 2 0)) from rfl); have gf2_ := blk_frozen hb0 2; have gc3 := (blk_cell hb0 3).trans (show _ = some (Value.int .i64 (acc.getD 3 0)) from rfl); have gf3_ := blk_frozen hb0 3; have gc4 := (blk_cell hb0 4).trans (show _ = some (Value.int .i64 (acc.getD 4 0)) from rfl); have gf4_ := blk_frozen hb0 4; have gc5 := (blk_cell hb0 5).trans (show _ = some (Value.int .i64 (acc.getD 5 0)) from rfl); have gf5_ := blk_frozen hb0 5; have gc6 := (blk_cell hb0 6).trans (show _ = some (Value.int .i64 (acc.getD 6 0)) from rfl); have gf6_ := blk_frozen hb0 6; have gc7 := (blk_cell hb0 7).trans (show _ = some (Value.int .i64 (acc.getD 7 0)) from rfl); have gf7_ := blk_frozen hb0 7; have gc8 := (blk_cell hb0 8).trans (show _ = some (Value.int .i64 (acc.getD 8 0)) from rfl); have gf8_ := blk_frozen hb0 8; have gc9 := (blk_cell hb0 9).trans (show _ = some (Value.int .i64 (acc.getD 9 0)) from rfl); have gf9_ := blk_frozen hb0 9;
        have HB0 := Aside0.mk hb0
        have HBB := Aside0.mk hB
        clear hb0 hb1 hB
        go_wp2
        refine bodyPost_ret (results_ct rfl _ _ w.heap.size 23 #[.int .i64 (acc.getD 0 0), .int .i64 (acc.getD 1 0), .int .i64 (acc.getD 2 0), .int .i64 (acc.getD 3 0), .int .i64 (acc.getD 4 0), .int .i64 (acc.getD 5 0), .int .i64 (acc.getD 6 0), .int .i64 (acc.getD 7 0), .int .i64 (acc.getD 8 0), .int .i64 (acc.getD 9 0)] (0, 0) _ rfl (by refine blk_put (cs := #[.int .i64 (acc.getD 0 0), .int .i64 (acc.getD 1 0), .int .i64 (acc.getD 2 0), .int .i64 (acc.getD 3 0), .int .i64 (acc.getD 4 0), .int .i64 (acc.getD 5 0), .int .i64 (acc.getD 6 0), .int .i64 (acc.getD 7 0), .int .i64 (acc.getD 8 0), .int .i64 (acc.getD 9 0)]) ?_ 9 _ rfl; refine blk_put (cs := #[.int .i64 (acc.getD 0 0), .int .i64 (acc.getD 1 0), .int .i64 (acc.getD 2 0), .int .i64 (acc.getD 3 0), .int .i64 (acc.getD 4 0), .int .i64 (acc.getD 5 0), .int .i64 (acc.getD 6 0), .int .i64 (acc.getD 7 0), .int .i64 (acc.getD 8 0), .int .i64 (acc.getD 9 0)]) ?_ 8 _ rfl; refine blk_put (cs := #[.int .i64 (acc.getD 0 0), .int .i64 (acc.getD 1 0), .int .i64 (acc.getD 2 0), .int .i64 (acc.getD 3 0), .int .i64 (acc.getD 4 0), .int .i64 (acc.getD 5 0), .int .i64 (acc.getD 6 0), .int .i64 (acc.getD 7 0), .int .i64 (acc.getD 8 0), .int .i64 (acc.getD 9 0)]) ?_ 7 _ rfl; refine blk_put (cs := #[.int .i64 (acc.getD 0 0), .int .i64 (acc.getD 1 0), .int .i64 (acc.getD 2 0), .int .i64 (acc.getD 3 0), .int .i64 (acc.getD 4 0), .int .i64 (acc.getD 5 0), .int .i64 (acc.getD 6 0), .int .i64 (acc.getD 7 0), .int .i64 (acc.getD 8 0), .int .i64 (acc.getD 9 0)]) ?_ 6 _ rfl; refine blk_put (cs := #[.int .i64 (acc.getD 0 0), .int .i64 (acc.getD 1 0), .int .i64 (acc.getD 2 0), .int .i64 (acc.getD 3 0), .int .i64 (acc.getD 4 0), .int .i64 (acc.getD 5 0), .int .i64 (acc.getD 6 0), .int .i64 (acc.getD 7 0), .int .i64 (acc.getD 8 0), .int .i64 (acc.getD 9 0)]) ?_ 5 _ rfl; refine blk_put (cs := #[.int .i64 (acc.getD 0 0), .int .i64 (acc.getD 1 0), .int .i64 (acc.getD 2 0), .int .i64 (acc.getD 3 0), .int .i64 (acc.getD 4 0), .int .i64 (acc.getD 5 0), .int .i64 (acc.getD 6 0), .int .i64 (acc.getD 7 0), .int .i64 (acc.getD 8 0), .int .i64 (acc.getD 9 0)]) ?_ 4 _ rfl; refine blk_put (cs := #[.int .i64 (acc.getD 0 0), .int .i64 (acc.getD 1 0), .int .i64 (acc.getD 2 0), .int .i64 (acc.getD 3 0), .int .i64 (acc.getD 4 0), .int .i64 (acc.getD 5 0), .int .i64 (acc.getD 6 0), .int .i64 (acc.getD 7 0), .int .i64 (acc.getD 8 0), .int .i64 (acc.getD 9 0)]) ?_ 3 _ rfl; refine blk_put (cs := #[.int .i64 (acc.getD 0 0), .int .i64 (acc.getD 1 0), .int .i64 (acc.getD 2 0), .int .i64 (acc.getD 3 0), .int .i64 (acc.getD 4 0), .int .i64 (acc.getD 5 0), .int .i64 (acc.getD 6 0), .int .i64 (acc.getD 7 0), .int .i64 (acc.getD 8 0), .int .i64 (acc.getD 9 0)]) ?_ 2 _ rfl; refine blk_put (cs := #[.int .i64 (acc.getD 0 0), .int .i64 (acc.getD 1 0), .int .i64 (acc.getD 2 0), .int .i64 (acc.getD 3 0), .int .i64 (acc.getD 4 0), .int .i64 (acc.getD 5 0), .int .i64 (acc.getD 6 0), .int .i64 (acc.getD 7 0), .int .i64 (acc.getD 8 0), .int .i64 (acc.getD 9 0)]) ?_ 1 _ rfl; refine blk_put (cs := #[.int .i64 (acc.getD 0 0), .int .i64 (acc.getD 1 0), .int .i64 (acc.getD 2 0), .int .i64 (acc.getD 3 0), .int .i64 (acc.getD 4 0), .int .i64 (acc.getD 5 0), .int .i64 (acc.getD 6 0), .int .i64 (acc.getD 7 0), .int .i64 (acc.getD 8 0), .int .i64 (acc.getD 9 0)]) ?_ 0 _ rfl; exact HB0.out) Try.underlying23 rfl (by kernel_rfl)) rfl ?_
        exact ⟨rfl, (by repeat (with_reducible first | exact HBB.out | refine below_set ?_ (Nat.le_refl _) | (with_reducible apply pw_below_drewN) | (with_reducible apply below_drew1) | (with_reducible apply below_alloc)))⟩
  · rw [if_neg hl] at h
    simp only [Option.some.injEq, Prod.mk.injEq] at h
    obtain ⟨rfl, rfl, rfl, rfl, rfl, rfl, rfl, rfl, rfl, rfl, rfl⟩ := h
    have hlb : ((l0.length : Int) != 64) = true := bne_iff_ne.mpr hl
    clear hl
    go_enter Try.func29, Try.ntmps29
    go_wp2
    refine bodyPost_ret (results_ct rfl _ _ w.heap.size 23 #[.int .i64 0, .int .i64 0, .int .i64 0, .int .i64 0, .int .i64 0, .int .i64 0, .int .i64 0, .int .i64 0, .int .i64 0, .int .i64 0] (0, 0) _ rfl (blk_new w _) Try.underlying23 rfl (by kernel_rfl)) rfl ?_
    exact ⟨rfl, (by repeat (with_reducible first | exact Below.refl _ _ | refine below_set ?_ (Nat.le_refl _) | (with_reducible apply pw_below_drewN) | (with_reducible apply below_drew1) | (with_reducible apply below_alloc)))⟩

end Go.Proofs.Ytomabnfeipobnaa.P
