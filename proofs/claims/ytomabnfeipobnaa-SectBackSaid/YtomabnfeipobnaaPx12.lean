-- Written by pext.py, a program of this session, over the kit's print: a function's contract
import Derived.Test.YtomabnfeipobnaaPx0
import Derived.Test.YtomabnfeipobnaaPx4
import Derived.Test.YtomabnfeipobnaaPx5
namespace Go.Proofs.Ytomabnfeipobnaa.P
open Go.RowKit Go.Proofs.YtomabnfeipobnaaW.PrintWords Go.Proofs.YtomabnfeipobnaaW.PrintLast Go.Proofs.YtomabnfeipobnaaW.PrintMore
attribute [local go_sem] max2_int min2_int max_two min_two max_three min_three max_four min_four   -- for this text's walks alone
set_option linter.unusedVariables false
set_option linter.unusedSimpArgs false


/-! ### sect_Write: function 27 -/
abbrev sect_Write.headCells (h0 h1 h2 h3 h4 h5 h6 h7 h8 h9 : Int) : Array Value := #[.int .i64 h0, .int .i64 h1, .int .i64 h2, .int .i64 h3, .int .i64 h4, .int .i64 h5, .int .i64 h6, .int .i64 h7, .int .i64 h8, .int .i64 h9]
abbrev sect_Write.fieldCells (g : Nat) : Array Value := #[.pointer (some ⟨g, 0, none⟩), .int .i64 4, .pointer (some ⟨g, 1, none⟩), .int .i64 4, .pointer (some ⟨g, 2, none⟩), .int .i64 8, .pointer (some ⟨g, 3, none⟩), .int .i64 8, .pointer (some ⟨g, 4, none⟩), .int .i64 8, .pointer (some ⟨g, 5, none⟩), .int .i64 8, .pointer (some ⟨g, 6, none⟩), .int .i64 4, .pointer (some ⟨g, 7, none⟩), .int .i64 4, .pointer (some ⟨g, 8, none⟩), .int .i64 8, .pointer (some ⟨g, 9, none⟩), .int .i64 8]
set_option maxHeartbeats 4000000 in
set_option maxRecDepth 1000000 in
theorem sect_Write.fields_calls (g : Nat) (w : World) : Calls Try.prog 67 #[.pointer (some ⟨g, 0, none⟩)] w fun e w' =>
    e = .returned (.slice (some ⟨w.heap.size, 0, none⟩) 10 10) ∧ w' = w.drew.alloc (.cells (sect_Write.fieldCells g) 102) := by
  go_enter Try.func67, Try.ntmps67
  go_wp2
  go_still_tail 40, (by kernel_rfl)
  change wpList _ _ _ _ _ w.drew
  go_wp2
  go_ret
  exact ⟨rfl, rfl⟩
def sect_Write.go (k : Nat) : List (Int × Int) → List Int → Option (List Int × Int)
  | [], acc => some (acc, 0)
  | p :: l, acc => (le_Put.f k p.1 p.2).bind fun q => if q.2 = 0 then (if p.1 < 0 then some ([], 2) else if acc.length + q.1.length < 140737488355328 then sect_Write.go k l (acc ++ q.1) else none) else some ([], 2)
theorem sect_Write.go_mono (k : Nat) : ∀ (l : List (Int × Int)) (acc : List Int), LeO (sect_Write.go k l acc) (sect_Write.go (k + 1) l acc)
  | [], _ => LeO.refl _
  | p :: l, acc => by
    unfold sect_Write.go
    refine LeO.bind (le_Put.mono _ _ _) (fun q => ?_)
    by_cases h : q.2 = 0
    · rw [if_pos h, if_pos h]
      by_cases h2 : p.1 < 0
      · rw [if_pos h2, if_pos h2]; exact LeO.refl _
      · rw [if_neg h2, if_neg h2]
        by_cases h3 : acc.length + q.1.length < 140737488355328
        · rw [if_pos h3, if_pos h3]; exact sect_Write.go_mono k l _
        · rw [if_neg h3, if_neg h3]; exact LeO.refl _
    · rw [if_neg h, if_neg h]; exact LeO.refl _
def sect_Write.f (k : Nat) (h0 h1 h2 h3 h4 h5 h6 h7 h8 h9 : Int) : Option (List Int × Int) := sect_Write.go k [(h0, 4), (h1, 4), (h2, 8), (h3, 8), (h4, 8), (h5, 8), (h6, 4), (h7, 4), (h8, 8), (h9, 8)] []
theorem sect_Write.mono (h0 h1 h2 h3 h4 h5 h6 h7 h8 h9 : Int) (k : Nat) : LeO (sect_Write.f k h0 h1 h2 h3 h4 h5 h6 h7 h8 h9) (sect_Write.f (k + 1) h0 h1 h2 h3 h4 h5 h6 h7 h8 h9) := sect_Write.go_mono k _ _
set_option maxHeartbeats 4000000 in
set_option maxRecDepth 1000000 in
theorem sect_Write.calls (k : Nat) (h0 h1 h2 h3 h4 h5 h6 h7 h8 h9 : Int) (r1 : List Int) (r2 : Int) (w : World) (H : sect_Write.f k h0 h1 h2 h3 h4 h5 h6 h7 h8 h9 = some (r1, r2)) :
    Calls Try.prog 27 #[.agg (sect_Write.headCells h0 h1 h2 h3 h4 h5 h6 h7 h8 h9)] w fun e w' => ∃ v0_ : Value, e = .returned (.tuple #[v0_, .int .i64 r2]) ∧ Kd.R (Kd.int .u8) 5 w' w.heap.size (fun _ => True) v0_ r1 ∧ Below w.heap.size w w' := by
  unfold sect_Write.f at H
  go_enter Try.func27, Try.ntmps27
  go_wp2_with (go_at_call 67; refine (sect_Write.fields_calls _ _).mono ?_; rintro e W' ⟨rfl, rfl⟩)
  go_outline
  go_loopg [2, 10] 11 (fun gf v i wr => ∃ (j : Nat) (acc : List Int), j + gf = 11 ∧ j ≤ 10 ∧ i = .int .i64 j ∧ Kd.R (Kd.int .u8) 5 wr w.heap.size (fun _ => True) v acc ∧ sect_Write.go k (([(h0, 4), (h1, 4), (h2, 8), (h3, 8), (h4, 8), (h5, 8), (h6, 4), (h7, 4), (h8, 8), (h9, 8)] : List (Int × Int)).drop j) acc = some (r1, r2)
    ∧ wr.heap[w.heap.size]? = some (.cells (sect_Write.headCells h0 h1 h2 h3 h4 h5 h6 h7 h8 h9) 23 (0, 0)) ∧ wr.heap[w.heap.size + 1]? = some (.cells (sect_Write.fieldCells w.heap.size) 102 (0, 0)) ∧ Below w.heap.size w wr)
  case atStart =>
    exact ⟨0, [], rfl, by omega, rfl, Kd.R_nil _ _ _ _ _, H, blk_drew (blk_alloc (blk_new w _) _), by rw [show w.heap.size + 1 = (w.alloc (.cells (sect_Write.headCells h0 h1 h2 h3 h4 h5 h6 h7 h8 h9) 23)).heap.size by simp]; exact blk_drew (blk_new (w.alloc _) _), below_drew1 (below_alloc (below_alloc (Below.refl _ _) _) _)⟩
  case round =>
    obtain ⟨j, acc, hj, hj10, rfl, hR, HA, hb0, hb1, hB⟩ := hrel
    by_cases hlt : j < 10
    · obtain ⟨n, s, rest, hdrop, hc0, hc1, hc2⟩ : ∃ (n s : Int) (rest : List (Int × Int)), ([(h0, 4), (h1, 4), (h2, 8), (h3, 8), (h4, 8), (h5, 8), (h6, 4), (h7, 4), (h8, 8), (h9, 8)] : List (Int × Int)).drop j = (n, s) :: rest ∧ wr.cell? ⟨w.heap.size + 1, j * 2, none⟩ = some (.pointer (some ⟨w.heap.size, j, none⟩)) ∧
          wr.cell? ⟨w.heap.size + 1, j * 2 + 1, none⟩ = some (.int .i64 s) ∧ wr.cell? ⟨w.heap.size, j, none⟩ = some (.int .i64 n) := by
        rcases (show j = 0 ∨ j = 1 ∨ j = 2 ∨ j = 3 ∨ j = 4 ∨ j = 5 ∨ j = 6 ∨ j = 7 ∨ j = 8 ∨ j = 9 by omega) with rfl | rfl | rfl | rfl | rfl | rfl | rfl | rfl | rfl | rfl <;>
          exact ⟨_, _, _, rfl, (blk_cell hb1 _).trans rfl, (blk_cell hb1 _).trans rfl, (blk_cell hb0 _).trans rfl⟩
      have hrest : ([(h0, 4), (h1, 4), (h2, 8), (h3, 8), (h4, 8), (h5, 8), (h6, 4), (h7, 4), (h8, 8), (h9, 8)] : List (Int × Int)).drop (j + 1) = rest := by rw [← List.drop_drop, hdrop]; rfl
      rw [hdrop] at HA
      have hlen := blk_lt hb1
      have HA' := Aside0.mk HA
      have HR := Aside0.mk hR
      have HB0 := Aside0.mk hb0
      have HB1 := Aside0.mk hb1
      have HBB := Aside0.mk hB
      have HD := Aside0.mk hrest
      clear HA hR hb0 hb1 hB hdrop hrest
      go_wp2
      have HA := HA'.out
      have hR := HR.out
      have hb0 := HB0.out
      have hb1 := HB1.out
      have hB := HBB.out
      simp only [sect_Write.go] at HA
      obtain ⟨⟨q1, q2⟩, HP0, HQ⟩ := Option.bind_eq_some_iff.mp HA
      have HP := Aside0.mk HP0
      have HQ' := HQ; clear HQ
      have HQ := Aside0.mk HQ'; clear HQ'
      have hlF : w.heap.size < wr.heap.size := by omega
      have fc0 : (wr.alloc (.cells #[.pointer (some ⟨w.heap.size, j, none⟩), .int .i64 s] 102)).cell? ⟨wr.heap.size, 0, none⟩ = some (.pointer (some ⟨w.heap.size, j, none⟩)) := (cell_of_row _ wr.heap.size 0 _ 102 (0, 0) (heap_alloc_new wr _)).trans rfl
      have fc1 : (wr.alloc (.cells #[.pointer (some ⟨w.heap.size, j, none⟩), .int .i64 s] 102)).cell? ⟨wr.heap.size, 1, none⟩ = some (.int .i64 s) := (cell_of_row _ wr.heap.size 1 _ 102 (0, 0) (heap_alloc_new wr _)).trans rfl
      have fc2 : (wr.alloc (.cells #[.pointer (some ⟨w.heap.size, j, none⟩), .int .i64 s] 102)).cell? ⟨w.heap.size, j, none⟩ = some (.int .i64 n) := (World.cell?_alloc_lt _ _ _ hlF).trans hc2
      have gR := Kd.R_alloc hR (.cells #[.pointer (some ⟨w.heap.size, j, none⟩), .int .i64 s] 102)
      have gb0 := blk_alloc hb0 (.cells #[.pointer (some ⟨w.heap.size, j, none⟩), .int .i64 s] 102)
      have gb1 := blk_alloc hb1 (.cells #[.pointer (some ⟨w.heap.size, j, none⟩), .int .i64 s] 102)
      have gB := below_alloc hB (.cells #[.pointer (some ⟨w.heap.size, j, none⟩), .int .i64 s] 102)
      have gF : wr.heap.size < (wr.alloc (.cells #[.pointer (some ⟨w.heap.size, j, none⟩), .int .i64 s] 102)).heap.size := by simp
      clear HA HP0 hR hb0 hb1 hB HR HB0 HB1 HBB HA' hc0 hc1 hc2
      obtain ⟨W, hW⟩ : ∃ W, wr.alloc (.cells #[.pointer (some ⟨w.heap.size, j, none⟩), .int .i64 s] 102) = W := ⟨_, rfl⟩
      rw [hW] at fc0 fc1 fc2 gR gb0 gb1 gB gF
      rw [hW]
      clear hW
      obtain ⟨F, hF⟩ : ∃ F, wr.heap.size = F := ⟨_, rfl⟩
      rw [hF] at fc0 fc1 hlF gF
      rw [hF]
      clear hF
      have HR := Aside0.mk gR
      have HB0 := Aside0.mk gb0
      have HB1 := Aside0.mk gb1
      have HBB := Aside0.mk gB
      clear gR gb0 gb1 gB
      go_region_held3 (fun w' => w'.cell? ⟨F, 0, none⟩ = some (.pointer (some ⟨w.heap.size, j, none⟩)) ∧ w'.cell? ⟨F, 1, none⟩ = some (.int .i64 s) ∧ w'.cell? ⟨w.heap.size, j, none⟩ = some (.int .i64 n))
        (first | go_keep | exact ⟨pw_cell_below hb5 (by assumption), pw_cell_below hb5 (by assumption), pw_cell_below hb5 (by assumption)⟩ | exact ⟨pw_cell_below hb5 (by simp [*]), pw_cell_below hb5 (by simp [*]), pw_cell_below hb5 (by simp [*])⟩)
        (first | (go_at_call 68; (with_reducible refine (le_Put.calls k n s q1 q2 _ HP.out).mono ?_); rintro e w1 ⟨v5, rfl, hR5, hb5⟩))
      rename_i hH
      obtain ⟨fc0', fc1', fc2'⟩ := hH
      have hE := Kd.R_elder' (Kd.R_drew HR.out) (Kd.R_base hR5) hb5
      have hV := Kd.R_lower (Kd.R_new' hR5 (Kd.R_lt (Kd.R_drew HR.out))) (below_size (below_drew1 HBB.out))
      have gb0 := blk_below (blk_drew HB0.out) hb5
      have gb1 := blk_below (blk_drew HB1.out) hb5
      have gB := below_step (below_drew1 HBB.out) hb5
      clear HR HB0 HB1 HBB fc0 fc1 fc2 hR5 hb5
      obtain ⟨Ao, co, eo⟩ := Kd.R_slice hV
      subst eo
      have HR := Aside0.mk hE
      have HV := Aside0.mk hV
      have HB0 := Aside0.mk gb0
      have HB1 := Aside0.mk gb1
      have HBB := Aside0.mk gB
      clear hE hV gb0 gb1 gB
      by_cases hq : q2 = 0
      · subst hq
        have HQ' := HQ.out
        rw [if_pos rfl] at HQ'
        by_cases hn : n < 0
        · rw [if_pos hn] at HQ'
          simp only [Option.some.injEq, Prod.mk.injEq] at HQ'
          obtain ⟨rfl, rfl⟩ := HQ'
          go_wp2
          go_ret2
          exact ⟨_, rfl, Kd.R_nil _ _ _ _ _, HBB.out⟩
        · rw [if_neg hn] at HQ'
          by_cases hl : acc.length + q1.length < 140737488355328
          · rw [if_pos hl] at HQ'
            go_wp2_with (((with_reducible refine gate_builtin (b := .append) (xs := #[.tmp 33, .tmp 34]) rfl ?_); at_builtin; refine Kd.R_append_rows (Kd.int .u8) (w0 := w) w.heap.size rfl (.tmp 33) (.tmp 34) 24 5 (.int .u8 0) 1 rfl Try.underlying24 info5 rfl (by decide) (by omega) u2 acc q1 _ _ _ (fun k_ => some k_ ≠ (.slice Ao q1.length co : Value).ownBlock) (fun _ => False) rfl rfl ?aO ?aR (fun _ _ h => h) (fun _ h => h.elim) ?aF ?aB ?aS ?aL ?_; (case aR => exact (Kd.R_reads' HV.out).2.2); (case aB => exact HBB.out); (case aF => exact (fun k_ hk => Kd.fresh' (Kd.R_lt HV.out) k_ hk)); (case aO => exact (Kd.R_mono HR.out (fun _ hk => hk.2))); (case aS => exact below_size HBB.out); (case aL => omega); intro v1 w2 ho hb hg hat; have n0_ := Aside0.mk (blk_grown HB0.out hg (Kd.R_ne HR.out HB0.out (by decide))); have n1_ := Aside0.mk (blk_grown HB1.out hg (Kd.R_ne HR.out HB1.out (by decide))); have n2_ := Aside0.mk hb; have n3_ := Aside0.mk ho; clear HB0 HB1 HBB HR HV ho hb hg hat; have HB0 := n0_; have HB1 := n1_; have HBB := n2_; have HR := n3_; clear n0_ n1_ n2_ n3_))
            cases gk with
            | zero => exact absurd hj (by omega)
            | succ k3 =>
              go_roundg k3
              case measure => omega
              case rel => exact ⟨j + 1, acc ++ q1, by omega, by omega, rfl, Kd.R_mono HR.out (fun _ _ => trivial), by rw [HD.out]; exact HQ', HB0.out, HB1.out, HBB.out⟩
          · rw [if_neg hl] at HQ'
            exact absurd HQ' (by simp)
      · have HQ' := HQ.out
        rw [if_neg hq] at HQ'
        simp only [Option.some.injEq, Prod.mk.injEq] at HQ'
        obtain ⟨rfl, rfl⟩ := HQ'
        go_wp2
        go_ret2
        exact ⟨_, rfl, Kd.R_nil _ _ _ _ _, HBB.out⟩
    · have hj10 : j = 10 := by omega
      subst hj10
      have HA' : some (acc, (0 : Int)) = some (r1, r2) := HA
      simp only [Option.some.injEq, Prod.mk.injEq] at HA'
      obtain ⟨rfl, rfl⟩ := HA'
      clear HA
      have HR := Aside0.mk hR
      have HBB := Aside0.mk hB
      clear hR hB
      go_wp2
      go_ret2
      exact ⟨_, rfl, HR.out, HBB.out⟩

/-! ### quoinlaw09_alive: function 31 -/
def quoinlaw09_alive.f (k : Nat)  : Option (Bool) := (sect_Kind.f (⟨#[46, 100, 97, 116, 97, 46, 120]⟩ : ByteArray)).bind fun bt234 => ((sect_Write.f k 0 0 0 0 0 1 0 0 0 0).bind fun bt236 => (if bt234.2 = 0 then (if bt234.1 = 3 then (if bt236.2 = 0 then (if (bt236.1.length : Int) = 64 then (if 32 < (bt236.1.length : Int) then (some ((rd bt236.1 32) == 1)) else (none)) else (some false)) else (some false)) else (some false)) else (some false)))
theorem quoinlaw09_alive.mono : ∀ k, LeO (quoinlaw09_alive.f k ) (quoinlaw09_alive.f (k + 1) ) := by
 intro  k
 unfold quoinlaw09_alive.f
 repeat' first
   | (with_reducible exact sect_Write.mono _ _ _ _ _ _ _ _ _ _ _)
   | (with_reducible exact LeO.refl _)
   | (with_reducible exact LeO.none _)
   | (with_reducible refine LeO.ite ?_ ?_)
   | (with_reducible refine LeO.bind ?_ (fun _ => ?_))
   | exact sect_Write.mono _ _ _ _ _ _ _ _ _ _ _
   | exact LeO.none _
   | refine LeO.ite ?_ ?_
   | refine LeO.bind ?_ (fun _ => ?_)
set_option maxHeartbeats 8000000 in
set_option maxRecDepth 100000 in
theorem quoinlaw09_alive.calls (k : Nat)  (r : Bool) (w : World) (h : quoinlaw09_alive.f k  = some r) :
  Calls Try.prog 31 #[] w fun e w' => e = .returned (.bool r) ∧ Below w.heap.size w w' := by
 have hu23 := Try.underlying23
 have HB := Aside0.mk (Below.refl w.heap.size w)
 have H : ((sect_Kind.f (⟨#[46, 100, 97, 116, 97, 46, 120]⟩ : ByteArray)).bind fun bt234 => ((sect_Write.f k 0 0 0 0 0 1 0 0 0 0).bind fun bt236 => (if bt234.2 = 0 then (if bt234.1 = 3 then (if bt236.2 = 0 then (if (bt236.1.length : Int) = 64 then (if 32 < (bt236.1.length : Int) then (some ((rd bt236.1 32) == 1)) else (none)) else (some false)) else (some false)) else (some false)) else (some false)))) = some r := h
 clear h
 replace H := Option.bind_eq_some_iff.mp H
 obtain ⟨⟨t234, t235⟩, A10, H⟩ := H
 replace H : ((sect_Write.f k 0 0 0 0 0 1 0 0 0 0).bind fun bt236 => (if t235 = 0 then (if t234 = 3 then (if bt236.2 = 0 then (if (bt236.1.length : Int) = 64 then (if 32 < (bt236.1.length : Int) then (some ((rd bt236.1 32) == 1)) else (none)) else (some false)) else (some false)) else (some false)) else (some false))) = some r := H
 have A1 := Aside0.mk A10
 clear A10
 replace H := Option.bind_eq_some_iff.mp H
 obtain ⟨⟨t236, t239⟩, A20, H⟩ := H
 replace H : (if t235 = 0 then (if t234 = 3 then (if t239 = 0 then (if (t236.length : Int) = 64 then (if 32 < (t236.length : Int) then (some ((rd t236 32) == 1)) else (none)) else (some false)) else (some false)) else (some false)) else (some false)) = some r := H
 have A2 := Aside0.mk A20
 clear A20
 by_cases c3 : t235 = 0
 ·
  rw [if_pos c3] at H
  have c3b0 : (t235 == 0) = true := beq_iff_eq.mpr c3
  have c3b1 : (t235 != 0) = false := bne_eq_false_iff_eq.mpr c3
  clear c3
  by_cases c4 : t234 = 3
  ·
   rw [if_pos c4] at H
   have c4b0 : (t234 == 3) = true := beq_iff_eq.mpr c4
   have c4b1 : (t234 != 3) = false := bne_eq_false_iff_eq.mpr c4
   clear c4
   by_cases c5 : t239 = 0
   ·
    rw [if_pos c5] at H
    have c5b0 : (t239 == 0) = true := beq_iff_eq.mpr c5
    have c5b1 : (t239 != 0) = false := bne_eq_false_iff_eq.mpr c5
    clear c5
    by_cases c6 : (t236.length : Int) = 64
    ·
     rw [if_pos c6] at H
     have c6b0 : ((t236.length : Int) == 64) = true := beq_iff_eq.mpr c6
     have c6b1 : ((t236.length : Int) != 64) = false := bne_eq_false_iff_eq.mpr c6
     clear c6
     by_cases c7 : 32 < (t236.length : Int)
     ·
      rw [if_pos c7] at H
      have c7b0 : decide (32 < (t236.length : Int)) = true := decide_eq_true c7
      have c7b1 : decide (32 < t236.length) = true := decide_eq_true (by omega)
      clear c7
      obtain rfl := Option.some.inj H
      go_enter Try.func31, Try.ntmps31
      go_wp2_with (first | ((with_reducible refine gate_callee (f := 35) rfl ?_); refine goesL_ (some 6) rfl rfl Try.func35 (by kernel_rfl) rfl #[.string (⟨#[46, 100, 97, 116, 97, 46, 120]⟩ : ByteArray)] rfl (by (try simp only [List.map_toArray, List.map_cons, List.map_nil]); first | done | rfl | (simp only [List.length_drop, List.length_take]; rfl)) ?_; (with_reducible refine (sect_Kind.calls (⟨#[46, 100, 97, 116, 97, 46, 120]⟩ : ByteArray) t234 t235 _ A1.out).mono ?_); rintro e w8 ⟨rfl, hb⟩; refine ⟨_, rfl, ?_⟩; have n0_ := Aside0.mk (below_step (by repeat (first | (with_reducible first | exact HB.out | apply below_alloc | apply pw_below_drewN | apply below_drew1) | exact HB.out)) hb); clear HB; have HB := n0_; clear n0_; (try clear hb); (try clear hb2); (try clear hk); (try clear hi)) | ((with_reducible refine gate_callee (f := 27) rfl ?_); refine goesL_ (some 11) rfl rfl Try.func27 (by kernel_rfl) rfl #[.agg #[.int .i64 0, .int .i64 0, .int .i64 0, .int .i64 0, .int .i64 0, .int .i64 1, .int .i64 0, .int .i64 0, .int .i64 0, .int .i64 0]] rfl (by (try simp only [List.map_toArray, List.map_cons, List.map_nil]); first | done | rfl | (simp only [List.length_drop, List.length_take]; rfl)) ?_; (with_reducible refine (sect_Write.calls k 0 0 0 0 0 1 0 0 0 0 t236 t239 _ A2.out).mono ?_); rintro e w9 ⟨v237, rfl, ho0, hb⟩; refine ⟨_, rfl, ?_⟩; have n0_ := Aside0.mk (Kd.R_lower ho0 (below_size (by repeat (first | (with_reducible first | exact HB.out | apply below_alloc | apply pw_below_drewN | apply below_drew1) | exact HB.out)))); have n1_ := Aside0.mk (below_step (by repeat (first | (with_reducible first | exact HB.out | apply below_alloc | apply pw_below_drewN | apply below_drew1) | exact HB.out)) hb); clear HB; have HO238 := n0_; have HB := n1_; clear n0_ n1_; (try clear hb); (try clear hb2); (try clear hk); (try clear hi); (try clear ho0); obtain ⟨Ao10, co10, eo10⟩ := Kd.R_slice HO238.out; subst eo10; have p240 : 0 ≤ (32 : Int) := (by omega); have q240 : 32 < (t236.length : Int) := of_decide_eq_true (by first | (with_reducible assumption) | assumption); obtain ⟨ad240, e240, hx240_0⟩ := Kd.at_int (Kd.R_reads' HO238.out).2.2 32 p240 q240; cases e240; (try simp only [show (32 : Int).toNat = 32 from rfl, Nat.reduceMul, Nat.reduceEqDiff, Go.Addr.add, ↓reduceIte] at hx240_0); have qi240 : (32 < t236.length) = True := eq_true (by omega); (try rw [show ((32 : Int)).toNat = 32 from rfl] at hx240_0); replace p240 := eq_true p240; replace q240 := eq_true q240))
      go_ret
      exact ⟨by first | rfl | (simp [errW_none, errW_some] <;> rfl) | (simp [*, errW_none, errW_some] <;> rfl), by repeat (first | (with_reducible first | exact HB.out | apply below_alloc | apply pw_below_drewN | apply below_drew1) | exact HB.out)⟩
     ·
      rw [if_neg c7] at H
      exact absurd H (by simp)
    ·
     rw [if_neg c6] at H
     have c6b0 : ((t236.length : Int) == 64) = false := beq_eq_false_iff_ne.mpr c6
     have c6b1 : ((t236.length : Int) != 64) = true := bne_iff_ne.mpr c6
     obtain rfl := Option.some.inj H
     go_enter Try.func31, Try.ntmps31
     go_wp2_with (first | ((with_reducible refine gate_callee (f := 35) rfl ?_); refine goesL_ (some 6) rfl rfl Try.func35 (by kernel_rfl) rfl #[.string (⟨#[46, 100, 97, 116, 97, 46, 120]⟩ : ByteArray)] rfl (by (try simp only [List.map_toArray, List.map_cons, List.map_nil]); first | done | rfl | (simp only [List.length_drop, List.length_take]; rfl)) ?_; (with_reducible refine (sect_Kind.calls (⟨#[46, 100, 97, 116, 97, 46, 120]⟩ : ByteArray) t234 t235 _ A1.out).mono ?_); rintro e w11 ⟨rfl, hb⟩; refine ⟨_, rfl, ?_⟩; have n0_ := Aside0.mk (below_step (by repeat (first | (with_reducible first | exact HB.out | apply below_alloc | apply pw_below_drewN | apply below_drew1) | exact HB.out)) hb); clear HB; have HB := n0_; clear n0_; (try clear hb); (try clear hb2); (try clear hk); (try clear hi)) | ((with_reducible refine gate_callee (f := 27) rfl ?_); refine goesL_ (some 11) rfl rfl Try.func27 (by kernel_rfl) rfl #[.agg #[.int .i64 0, .int .i64 0, .int .i64 0, .int .i64 0, .int .i64 0, .int .i64 1, .int .i64 0, .int .i64 0, .int .i64 0, .int .i64 0]] rfl (by (try simp only [List.map_toArray, List.map_cons, List.map_nil]); first | done | rfl | (simp only [List.length_drop, List.length_take]; rfl)) ?_; (with_reducible refine (sect_Write.calls k 0 0 0 0 0 1 0 0 0 0 t236 t239 _ A2.out).mono ?_); rintro e w12 ⟨v237, rfl, ho0, hb⟩; refine ⟨_, rfl, ?_⟩; have n0_ := Aside0.mk (Kd.R_lower ho0 (below_size (by repeat (first | (with_reducible first | exact HB.out | apply below_alloc | apply pw_below_drewN | apply below_drew1) | exact HB.out)))); have n1_ := Aside0.mk (below_step (by repeat (first | (with_reducible first | exact HB.out | apply below_alloc | apply pw_below_drewN | apply below_drew1) | exact HB.out)) hb); clear HB; have HO238 := n0_; have HB := n1_; clear n0_ n1_; (try clear hb); (try clear hb2); (try clear hk); (try clear hi); (try clear ho0); obtain ⟨Ao13, co13, eo13⟩ := Kd.R_slice HO238.out; subst eo13))
     go_ret
     exact ⟨by first | rfl | (simp [errW_none, errW_some] <;> rfl) | (simp [*, errW_none, errW_some] <;> rfl), by repeat (first | (with_reducible first | exact HB.out | apply below_alloc | apply pw_below_drewN | apply below_drew1) | exact HB.out)⟩
   ·
    rw [if_neg c5] at H
    have c5b0 : (t239 == 0) = false := beq_eq_false_iff_ne.mpr c5
    have c5b1 : (t239 != 0) = true := bne_iff_ne.mpr c5
    obtain rfl := Option.some.inj H
    go_enter Try.func31, Try.ntmps31
    go_wp2_with (first | ((with_reducible refine gate_callee (f := 35) rfl ?_); refine goesL_ (some 6) rfl rfl Try.func35 (by kernel_rfl) rfl #[.string (⟨#[46, 100, 97, 116, 97, 46, 120]⟩ : ByteArray)] rfl (by (try simp only [List.map_toArray, List.map_cons, List.map_nil]); first | done | rfl | (simp only [List.length_drop, List.length_take]; rfl)) ?_; (with_reducible refine (sect_Kind.calls (⟨#[46, 100, 97, 116, 97, 46, 120]⟩ : ByteArray) t234 t235 _ A1.out).mono ?_); rintro e w14 ⟨rfl, hb⟩; refine ⟨_, rfl, ?_⟩; have n0_ := Aside0.mk (below_step (by repeat (first | (with_reducible first | exact HB.out | apply below_alloc | apply pw_below_drewN | apply below_drew1) | exact HB.out)) hb); clear HB; have HB := n0_; clear n0_; (try clear hb); (try clear hb2); (try clear hk); (try clear hi)) | ((with_reducible refine gate_callee (f := 27) rfl ?_); refine goesL_ (some 11) rfl rfl Try.func27 (by kernel_rfl) rfl #[.agg #[.int .i64 0, .int .i64 0, .int .i64 0, .int .i64 0, .int .i64 0, .int .i64 1, .int .i64 0, .int .i64 0, .int .i64 0, .int .i64 0]] rfl (by (try simp only [List.map_toArray, List.map_cons, List.map_nil]); first | done | rfl | (simp only [List.length_drop, List.length_take]; rfl)) ?_; (with_reducible refine (sect_Write.calls k 0 0 0 0 0 1 0 0 0 0 t236 t239 _ A2.out).mono ?_); rintro e w15 ⟨v237, rfl, ho0, hb⟩; refine ⟨_, rfl, ?_⟩; have n0_ := Aside0.mk (Kd.R_lower ho0 (below_size (by repeat (first | (with_reducible first | exact HB.out | apply below_alloc | apply pw_below_drewN | apply below_drew1) | exact HB.out)))); have n1_ := Aside0.mk (below_step (by repeat (first | (with_reducible first | exact HB.out | apply below_alloc | apply pw_below_drewN | apply below_drew1) | exact HB.out)) hb); clear HB; have HO238 := n0_; have HB := n1_; clear n0_ n1_; (try clear hb); (try clear hb2); (try clear hk); (try clear hi); (try clear ho0)))
    go_ret
    exact ⟨by first | rfl | (simp [errW_none, errW_some] <;> rfl) | (simp [*, errW_none, errW_some] <;> rfl), by repeat (first | (with_reducible first | exact HB.out | apply below_alloc | apply pw_below_drewN | apply below_drew1) | exact HB.out)⟩
  ·
   rw [if_neg c4] at H
   have c4b0 : (t234 == 3) = false := beq_eq_false_iff_ne.mpr c4
   have c4b1 : (t234 != 3) = true := bne_iff_ne.mpr c4
   obtain rfl := Option.some.inj H
   go_enter Try.func31, Try.ntmps31
   go_wp2_with (first | ((with_reducible refine gate_callee (f := 35) rfl ?_); refine goesL_ (some 6) rfl rfl Try.func35 (by kernel_rfl) rfl #[.string (⟨#[46, 100, 97, 116, 97, 46, 120]⟩ : ByteArray)] rfl (by (try simp only [List.map_toArray, List.map_cons, List.map_nil]); first | done | rfl | (simp only [List.length_drop, List.length_take]; rfl)) ?_; (with_reducible refine (sect_Kind.calls (⟨#[46, 100, 97, 116, 97, 46, 120]⟩ : ByteArray) t234 t235 _ A1.out).mono ?_); rintro e w16 ⟨rfl, hb⟩; refine ⟨_, rfl, ?_⟩; have n0_ := Aside0.mk (below_step (by repeat (first | (with_reducible first | exact HB.out | apply below_alloc | apply pw_below_drewN | apply below_drew1) | exact HB.out)) hb); clear HB; have HB := n0_; clear n0_; (try clear hb); (try clear hb2); (try clear hk); (try clear hi)) | ((with_reducible refine gate_callee (f := 27) rfl ?_); refine goesL_ (some 11) rfl rfl Try.func27 (by kernel_rfl) rfl #[.agg #[.int .i64 0, .int .i64 0, .int .i64 0, .int .i64 0, .int .i64 0, .int .i64 1, .int .i64 0, .int .i64 0, .int .i64 0, .int .i64 0]] rfl (by (try simp only [List.map_toArray, List.map_cons, List.map_nil]); first | done | rfl | (simp only [List.length_drop, List.length_take]; rfl)) ?_; (with_reducible refine (sect_Write.calls k 0 0 0 0 0 1 0 0 0 0 t236 t239 _ A2.out).mono ?_); rintro e w17 ⟨v237, rfl, ho0, hb⟩; refine ⟨_, rfl, ?_⟩; have n0_ := Aside0.mk (Kd.R_lower ho0 (below_size (by repeat (first | (with_reducible first | exact HB.out | apply below_alloc | apply pw_below_drewN | apply below_drew1) | exact HB.out)))); have n1_ := Aside0.mk (below_step (by repeat (first | (with_reducible first | exact HB.out | apply below_alloc | apply pw_below_drewN | apply below_drew1) | exact HB.out)) hb); clear HB; have HO238 := n0_; have HB := n1_; clear n0_ n1_; (try clear hb); (try clear hb2); (try clear hk); (try clear hi); (try clear ho0)))
   go_ret
   exact ⟨by first | rfl | (simp [errW_none, errW_some] <;> rfl) | (simp [*, errW_none, errW_some] <;> rfl), by repeat (first | (with_reducible first | exact HB.out | apply below_alloc | apply pw_below_drewN | apply below_drew1) | exact HB.out)⟩
 ·
  rw [if_neg c3] at H
  have c3b0 : (t235 == 0) = false := beq_eq_false_iff_ne.mpr c3
  have c3b1 : (t235 != 0) = true := bne_iff_ne.mpr c3
  obtain rfl := Option.some.inj H
  go_enter Try.func31, Try.ntmps31
  go_wp2_with (first | ((with_reducible refine gate_callee (f := 35) rfl ?_); refine goesL_ (some 6) rfl rfl Try.func35 (by kernel_rfl) rfl #[.string (⟨#[46, 100, 97, 116, 97, 46, 120]⟩ : ByteArray)] rfl (by (try simp only [List.map_toArray, List.map_cons, List.map_nil]); first | done | rfl | (simp only [List.length_drop, List.length_take]; rfl)) ?_; (with_reducible refine (sect_Kind.calls (⟨#[46, 100, 97, 116, 97, 46, 120]⟩ : ByteArray) t234 t235 _ A1.out).mono ?_); rintro e w18 ⟨rfl, hb⟩; refine ⟨_, rfl, ?_⟩; have n0_ := Aside0.mk (below_step (by repeat (first | (with_reducible first | exact HB.out | apply below_alloc | apply pw_below_drewN | apply below_drew1) | exact HB.out)) hb); clear HB; have HB := n0_; clear n0_; (try clear hb); (try clear hb2); (try clear hk); (try clear hi)) | ((with_reducible refine gate_callee (f := 27) rfl ?_); refine goesL_ (some 11) rfl rfl Try.func27 (by kernel_rfl) rfl #[.agg #[.int .i64 0, .int .i64 0, .int .i64 0, .int .i64 0, .int .i64 0, .int .i64 1, .int .i64 0, .int .i64 0, .int .i64 0, .int .i64 0]] rfl (by (try simp only [List.map_toArray, List.map_cons, List.map_nil]); first | done | rfl | (simp only [List.length_drop, List.length_take]; rfl)) ?_; (with_reducible refine (sect_Write.calls k 0 0 0 0 0 1 0 0 0 0 t236 t239 _ A2.out).mono ?_); rintro e w19 ⟨v237, rfl, ho0, hb⟩; refine ⟨_, rfl, ?_⟩; have n0_ := Aside0.mk (Kd.R_lower ho0 (below_size (by repeat (first | (with_reducible first | exact HB.out | apply below_alloc | apply pw_below_drewN | apply below_drew1) | exact HB.out)))); have n1_ := Aside0.mk (below_step (by repeat (first | (with_reducible first | exact HB.out | apply below_alloc | apply pw_below_drewN | apply below_drew1) | exact HB.out)) hb); clear HB; have HO238 := n0_; have HB := n1_; clear n0_ n1_; (try clear hb); (try clear hb2); (try clear hk); (try clear hi); (try clear ho0)))
  go_ret
  exact ⟨by first | rfl | (simp [errW_none, errW_some] <;> rfl) | (simp [*, errW_none, errW_some] <;> rfl), by repeat (first | (with_reducible first | exact HB.out | apply below_alloc | apply pw_below_drewN | apply below_drew1) | exact HB.out)⟩

end Go.Proofs.Ytomabnfeipobnaa.P
