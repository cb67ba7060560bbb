/- SectTwins: two sections are the same just where all their parts are; unlike heads have unlike bytes; for any two sections and heads. -/
import Derived.Test.YtdhkmaiidbomdacZHeadAlive
import Derived.Test.YtdhkmaiidbomdacPx4
import Derived.Test.YtdhkmaiidbomdacPx3
import Derived.Test.YtdhkmaiidbomdacPx2
namespace Go.Proofs.Ytdhkmaiidbomdac.Pure
open Go.RowKit Go.Proofs.Ytdhkmaiidbomdac.P Go.Proofs.YtdhkmaiidbomdacW.PrintWords Go.Proofs.YtdhkmaiidbomdacW.PrintLast Go.Proofs.Ytdhkmaiidbomdac.Z
set_option linter.unusedSimpArgs false
set_option linter.unusedVariables false
/-- Are all parts the same? -/
def Parts (n : ByteArray) (a : Int) (l : List Int) (z : Int) (n2 : ByteArray) (a2 : Int) (l2 : List Int) (z2 : Int) : Prop := n.toList = n2.toList ∧ a = a2 ∧ (strOfNums l).toList = (strOfNums l2).toList ∧ z = z2
instance (n : ByteArray) (a : Int) (l : List Int) (z : Int) (n2 : ByteArray) (a2 : Int) (l2 : List Int) (z2 : Int) : Decidable (Parts n a l z n2 a2 l2 z2) := inferInstanceAs (Decidable (_ ∧ _))
theorem same_parts (n : ByteArray) (a : Int) (l : List Int) (z : Int) (n2 : ByteArray) (a2 : Int) (l2 : List Int) (z2 : Int) : sect_Same.f n a l z n2 a2 l2 z2 = some (decide (Parts n a l z n2 a2 l2 z2)) := by
  unfold sect_Same.f
  by_cases c1 : n.toList = n2.toList
  · rw [if_pos c1]
    by_cases c2 : a = a2
    · rw [if_pos c2]
      by_cases c3 : (strOfNums l).toList = (strOfNums l2).toList
      · rw [if_pos c3]
        by_cases c4 : z = z2
        · rw [decide_eq_true (show Parts _ _ _ _ _ _ _ _ from ⟨c1, c2, c3, c4⟩), c4]
          simp
        · rw [decide_eq_false (fun h : Parts _ _ _ _ _ _ _ _ => c4 h.2.2.2)]
          simp [c4]
      · rw [if_neg c3, decide_eq_false (fun h : Parts _ _ _ _ _ _ _ _ => c3 h.2.2.1)]
    · rw [if_neg c2, decide_eq_false (fun h : Parts _ _ _ _ _ _ _ _ => c2 h.2.1)]
  · rw [if_neg c1, decide_eq_false (fun h : Parts _ _ _ _ _ _ _ _ => c1 h.1)]
theorem parts_symm {n : ByteArray} {a : Int} {l : List Int} {z : Int} {n2 : ByteArray} {a2 : Int} {l2 : List Int} {z2 : Int} (h : Parts n a l z n2 a2 l2 z2) : Parts n2 a2 l2 z2 n a l z := ⟨h.1.symm, h.2.1.symm, h.2.2.1.symm, h.2.2.2.symm⟩
theorem head_bounds (G : Int → Prop) (g0 g1 g2 g3 g4 g5 g6 g7 g8 g9 : Int) (w : G g0 ∧ G g1 ∧ G g2 ∧ G g3 ∧ G g4 ∧ G g5 ∧ G g6 ∧ G g7 ∧ G g8 ∧ G g9) : ∀ p ∈ headPs g0 g1 g2 g3 g4 g5 g6 g7 g8 g9, G p.1 := by
  intro p hp
  obtain ⟨w0, w1, w2, w3, w4, w5, w6, w7, w8, w9⟩ := w
  simp only [headPs, List.mem_cons, List.not_mem_nil, or_false] at hp
  rcases hp with rfl | rfl | rfl | rfl | rfl | rfl | rfl | rfl | rfl | rfl <;> assumption
theorem twins_j2 (g0 g1 g2 g3 g4 g5 g6 g7 g8 g9 h0 h1 h2 h3 h4 h5 h6 h7 h8 h9 : Int) (hg : ∀ p ∈ headPs g0 g1 g2 g3 g4 g5 g6 g7 g8 g9, p.1 ≤ 9223372036854775807) (hh : ∀ p ∈ headPs h0 h1 h2 h3 h4 h5 h6 h7 h8 h9, p.1 ≤ 9223372036854775807) (k : Nat) (hk : 20 ≤ k) :
    quoinlaw09_SectTwins.j2 k true false g0 g1 g2 g3 g4 g5 g6 g7 g8 g9 h0 h1 h2 h3 h4 h5 h6 h7 h8 h9 = some true := by
  obtain ⟨k, rfl⟩ : ∃ m, k = m + 1 := ⟨k - 1, by omega⟩
  simp only [quoinlaw09_SectTwins.j2]
  rw [if_neg (by simp), headwrite_eq _ _ _ _ _ _ _ _ _ _ k (by omega), headwrite_eq _ _ _ _ _ _ _ _ _ _ k (by omega)]
  simp only [Option.bind_some, headAns, if_true]
  by_cases og : headOk (headPs g0 g1 g2 g3 g4 g5 g6 g7 g8 g9) = true
  · rw [if_pos og]
    by_cases oh : headOk (headPs h0 h1 h2 h3 h4 h5 h6 h7 h8 h9) = true
    · rw [if_pos oh]
      have hlen := headBytes_length (headPs g0 g1 g2 g3 g4 g5 g6 g7 g8 g9) sz_head
      have hlen64 : (headBytes (headPs g0 g1 g2 g3 g4 g5 g6 g7 g8 g9)).length = 64 := by
        have e : ((headPs g0 g1 g2 g3 g4 g5 g6 g7 g8 g9).map Prod.snd).sum = 64 := rfl
        omega
      have ng := nums_bytes0 _ og hg
      have nh := nums_bytes0 _ oh hh
      have ng' : headNums (headBytes (headPs g0 g1 g2 g3 g4 g5 g6 g7 g8 g9)) 0 headSz = [g0, g1, g2, g3, g4, g5, g6, g7, g8, g9] := ng
      have nh' : headNums (headBytes (headPs h0 h1 h2 h3 h4 h5 h6 h7 h8 h9)) 0 headSz = [h0, h1, h2, h3, h4, h5, h6, h7, h8, h9] := nh
      simp only [if_true]
      rw [if_pos (by rw [hlen64]; rfl)]
      by_cases e : headBytes (headPs g0 g1 g2 g3 g4 g5 g6 g7 g8 g9) = headBytes (headPs h0 h1 h2 h3 h4 h5 h6 h7 h8 h9)
      · rw [e] at ng'
        have := ng'.symm.trans nh'
        simp only [List.cons.injEq, and_true] at this
        obtain ⟨rfl, rfl, rfl, rfl, rfl, rfl, rfl, rfl, rfl, rfl⟩ := this
        simp
      · rw [if_neg (fun h => e (str_inj (headBytes_allB _) (headBytes_allB _) h))]
        congr 1
        rw [Bool.not_eq_true', Bool.eq_false_iff]
        intro hq
        simp only [Bool.and_eq_true, beq_iff_eq] at hq
        obtain ⟨rfl, rfl, rfl, rfl, rfl, rfl, rfl, rfl, rfl, rfl⟩ := hq
        exact e rfl
    · rw [if_neg oh]
      simp
  · rw [if_neg og]
    simp
theorem twins_j1 (n : ByteArray) (a : Int) (l : List Int) (z : Int) (n2 : ByteArray) (a2 : Int) (l2 : List Int) (z2 : Int) (hl : l.length ≤ 10000) (g0 g1 g2 g3 g4 g5 g6 g7 g8 g9 h0 h1 h2 h3 h4 h5 h6 h7 h8 h9 : Int) (hg : ∀ p ∈ headPs g0 g1 g2 g3 g4 g5 g6 g7 g8 g9, p.1 ≤ 9223372036854775807) (hh : ∀ p ∈ headPs h0 h1 h2 h3 h4 h5 h6 h7 h8 h9, p.1 ≤ 9223372036854775807) (b : Bool) (hb : b = decide (Parts n a l z n2 a2 l2 z2)) (k : Nat) (hk : 30 ≤ k) :
    quoinlaw09_SectTwins.j1 k true b n a l z n2 a2 l2 z2 g0 g1 g2 g3 g4 g5 g6 g7 g8 g9 h0 h1 h2 h3 h4 h5 h6 h7 h8 h9 = some true := by
  obtain ⟨k, rfl⟩ : ∃ m, k = m + 1 := ⟨k - 1, by omega⟩
  have J := twins_j2 g0 g1 g2 g3 g4 g5 g6 g7 g8 g9 h0 h1 h2 h3 h4 h5 h6 h7 h8 h9 hg hh k (by omega)
  have ht : sect_Twin.f n a l z = some (n, a, l, z) := by
    unfold sect_Twin.f
    rw [if_pos (by simp; omega), List.nil_append]
  subst hb
  simp only [quoinlaw09_SectTwins.j1, ht, Option.bind_some, same_parts]
  rw [decide_eq_true (show Parts n a l z n a l z from ⟨rfl, rfl, rfl, rfl⟩), if_pos rfl]
  by_cases c : Parts n a l z n2 a2 l2 z2
  · rw [decide_eq_true c, decide_eq_true (parts_symm c)]
    simp only [if_true, Bool.not_true]
    exact J
  · rw [decide_eq_false c, decide_eq_false (fun h => c (parts_symm h))]
    simp only [Bool.false_eq_true, if_false]
    exact J
theorem twins_j0 (n : ByteArray) (a : Int) (l : List Int) (z : Int) (n2 : ByteArray) (a2 : Int) (l2 : List Int) (z2 : Int) (x : Bool) (hx : x = true ∨ l.length ≤ 10000) (g0 g1 g2 g3 g4 g5 g6 g7 g8 g9 h0 h1 h2 h3 h4 h5 h6 h7 h8 h9 : Int) (hg : ∀ p ∈ headPs g0 g1 g2 g3 g4 g5 g6 g7 g8 g9, p.1 ≤ 9223372036854775807) (hh : ∀ p ∈ headPs h0 h1 h2 h3 h4 h5 h6 h7 h8 h9, p.1 ≤ 9223372036854775807) (k : Nat) (hk : 40 ≤ k) :
    quoinlaw09_SectTwins.j0 k true x n a l z n2 a2 l2 z2 g0 g1 g2 g3 g4 g5 g6 g7 g8 g9 h0 h1 h2 h3 h4 h5 h6 h7 h8 h9 = some true := by
  obtain ⟨k, rfl⟩ : ∃ m, k = m + 1 := ⟨k - 1, by omega⟩
  simp only [quoinlaw09_SectTwins.j0]
  cases x
  · have J := fun b hb => twins_j1 n a l z n2 a2 l2 z2 (hx.resolve_left (by simp)) g0 g1 g2 g3 g4 g5 g6 g7 g8 g9 h0 h1 h2 h3 h4 h5 h6 h7 h8 h9 hg hh b hb k (by omega)
    rw [if_neg (by simp)]
    by_cases c1 : n.toList = n2.toList
    · rw [if_pos c1]
      by_cases c2 : a = a2
      · rw [if_pos c2]
        by_cases c3 : z = z2
        · rw [if_pos c3]
          refine J _ ?_
          by_cases c4 : (strOfNums l).toList = (strOfNums l2).toList
          · rw [decide_eq_true (show Parts n a l z n2 a2 l2 z2 from ⟨c1, c2, c4, c3⟩), c4]
            simp
          · rw [decide_eq_false (fun h : Parts n a l z n2 a2 l2 z2 => c4 h.2.2.1)]
            simp [c4]
        · rw [if_neg c3]
          exact J _ (decide_eq_false (fun h : Parts n a l z n2 a2 l2 z2 => c3 h.2.2.2)).symm
      · rw [if_neg c2]
        exact J _ (decide_eq_false (fun h : Parts n a l z n2 a2 l2 z2 => c2 h.2.1)).symm
    · rw [if_neg c1]
      exact J _ (decide_eq_false (fun h : Parts n a l z n2 a2 l2 z2 => c1 h.1)).symm
  · rw [if_pos rfl]
theorem SectTwins : quoinlaw09_SectTwins.Pure := by
  intro n a l z n2 a2 l2 z2 g0 g1 g2 g3 g4 g5 g6 g7 g8 g9 h0 h1 h2 h3 h4 h5 h6 h7 h8 h9 _ _ _ _ _ _ _ _ w0 w1 w2 w3 w4 w5 w6 w7 w8 w9 v0 v1 v2 v3 v4 v5 v6 v7 v8 v9
  refine ⟨100, ?_⟩
  have hg := head_bounds (fun x => x ≤ 9223372036854775807) g0 g1 g2 g3 g4 g5 g6 g7 g8 g9 ⟨(wf64 w0).2, (wf64 w1).2, (wf64 w2).2, (wf64 w3).2, (wf64 w4).2, (wf64 w5).2, (wf64 w6).2, (wf64 w7).2, (wf64 w8).2, (wf64 w9).2⟩
  have hh := head_bounds (fun x => x ≤ 9223372036854775807) h0 h1 h2 h3 h4 h5 h6 h7 h8 h9 ⟨(wf64 v0).2, (wf64 v1).2, (wf64 v2).2, (wf64 v3).2, (wf64 v4).2, (wf64 v5).2, (wf64 v6).2, (wf64 v7).2, (wf64 v8).2, (wf64 v9).2⟩
  have J := fun x hx => twins_j0 n a l z n2 a2 l2 z2 x hx g0 g1 g2 g3 g4 g5 g6 g7 g8 g9 h0 h1 h2 h3 h4 h5 h6 h7 h8 h9 hg hh 100 (by omega)
  unfold quoinlaw09_SectTwins.f
  rw [alive9_eq _ (by omega)]
  simp only [Option.bind_some]
  by_cases c1 : (l.length : Int) > 10000
  · rw [if_pos c1]
    exact J _ (.inl rfl)
  · rw [if_neg c1]
    have hl : l.length ≤ 10000 := by omega
    split
    · exact J _ (.inl rfl)
    · split
      · exact J _ (.inl rfl)
      · exact J _ (.inr hl)
end Go.Proofs.Ytdhkmaiidbomdac.Pure
