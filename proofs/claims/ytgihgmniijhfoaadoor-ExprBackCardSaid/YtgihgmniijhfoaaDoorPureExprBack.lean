/- What is told is read back. -/
import Derived.Test.YtgihgmniijhfoaaDoorPx21
import Derived.Test.YtgihgmniijhfoaaDoorPx5
import Derived.Test.YtgihgmniijhfoaaDoorZExprUse
import Derived.Test.YtgihgmniijhfoaaDoorZRef15
namespace Go.Proofs.YtgihgmniijhfoaaDoor.Pure
open Go.RowKit Go.Proofs.YtgihgmniijhfoaaDoor.P Go.Proofs.YtgihgmniijhfoaaDoor.Lex Go.Proofs.YtgihgmniijhfoaaDoor.Ex Go.Proofs.YtgihgmniijhfoaaDoor.ZU Go.Proofs.YtgihgmniijhfoaaDoorW.PrintWords Go.Proofs.YtgihgmniijhfoaaDoorW.PrintLast
set_option linter.unusedSimpArgs false
set_option linter.unusedVariables false
theorem lcheck_f (x : S41) (h0 : 0 ≤ x.f0) (hs : x.f1.size ≤ 1000000) (hn : numOk (ZT.toTok x)) (k : Nat) (hk : 2000000 ≤ k) : lex_Check.f k x.f0 x.f1 x.f2 = some (if mayL (ZT.toTok x) = true then 0 else 8) := by
  unfold lex_Check.f
  rw [ZT.text_f x h0 (by omega) hn k (by omega)]
  simp only [Option.bind_some]
  rw [show (textL (ZT.toTok x)).2 = mayL (ZT.toTok x) from rfl]
  cases mayL (ZT.toTok x) <;> rfl
theorem mark_ne {x : S41} {c : UInt8} (h : ¬ (x.f0 = 4 ∧ x.f1.toList = [c])) : ¬ ZT.toTok x = mk c := by
  intro e
  apply h
  have e1 := congrArg Tok.k e
  have e2 := congrArg Tok.t e
  simp only [ZT.toTok, mk] at e1 e2
  exact ⟨by omega, by rw [ByteArray.toList_eq]; exact e2⟩
theorem good_of {x : S41} {l : List S41} (h1 : ¬ (x.f0 = 4 ∧ x.f1.toList = [43])) (h2 : ¬ (x.f0 = 4 ∧ x.f1.toList = [45])) : Go.Proofs.YtgihgmniijhfoaaDoor.Ex.Good ((x :: l).map ZT.toTok) :=
  ⟨by simpa [first] using mark_ne h1, by simpa [first] using mark_ne h2⟩
theorem back_loop (l : List S41) (ok : okB l) (x : X) (hc : checkL x = true) (hn : numX x) (hl : l.length ≤ 200) : ∀ (d i k : Nat), l.length = i + d → 2000000 + d < k → (∀ t ∈ l.take i, mayL (ZT.toTok t) = true) → (0 < i → Go.Proofs.YtgihgmniijhfoaaDoor.Ex.Good (l.map ZT.toTok)) →
    quoinlaw16_ExprBack.l0 k l ((toksX x).map TK.tkS) (((toksX x).map TK.tkS).length : Int) (i : Int) ⟨x.s.toArray⟩ ⟨x.l.toArray⟩ x.n (x.m : Int) = some true
  | 0, i, 0, _, hk, _, _ => by omega
  | d + 1, i, 0, _, hk, _, _ => by omega
  | 0, i, k + 1, hd, hk, hm, hg => by
    have hi : i = l.length := by omega
    subst hi
    rw [quoinlaw16_ExprBack.l0, if_neg (by omega), if_pos (by have := toks_len x; rw [List.length_map]; omega)]
    rw [List.take_length] at hm
    have hgood : Go.Proofs.YtgihgmniijhfoaaDoor.Ex.Good (l.map ZT.toTok) := by
      cases l with
      | nil => exact good_nil
      | cons a r => exact hg (by simp)
    have hall : (l.map ZT.toTok).all mayL = true := by
      rw [List.all_map, List.all_eq_true]
      exact fun t ht => hm t ht
    rw [parse_f _ (ok_app (toks_ok hc hn) ok (by have := toks_len x; rw [List.length_map]; omega)) 0 (y := x) (n := (toksX x).length) (e := 0) (by rw [List.map_append, toks_back]; exact parse_back hc hn hgood hall)]
    simp
  | d + 1, i, k + 1, hd, hk, hm, hg => by
    have hlt : i < l.length := by omega
    have hrd := ZR.rd_at l i hlt
    have hx := ok.2 l[i] (List.getElem_mem hlt)
    rw [quoinlaw16_ExprBack.l0, if_pos (by omega), if_pos (by omega), hrd, lcheck_f l[i] hx.1 hx.2.1 hx.2.2 k (by omega)]
    simp only [Option.bind_some]
    cases hmi : mayL (ZT.toTok l[i]) with
    | false => rfl
    | true =>
      rw [if_pos rfl, if_pos rfl]
      have hw : wrap64 ((i : Int) + 1) = ((i + 1 : Nat) : Int) := by unfold wrap64; omega
      have hm' : ∀ t ∈ l.take (i + 1), mayL (ZT.toTok t) = true := by
        intro t ht
        rw [List.take_succ_eq_append_getElem hlt, List.mem_append] at ht
        rcases ht with ht | ht
        · exact hm t ht
        · simp at ht; rw [ht]; exact hmi
      rw [hw]
      by_cases h0 : i = 0
      · subst h0
        have hl0 : l = l[0] :: l.tail := by
          cases l with
          | nil => simp at hlt
          | cons a r => rfl
        have hrd0 : rd_T41 l 0 = l[0] := hrd
        rw [if_pos (by rfl), if_pos (by omega), hrd0]
        by_cases c4 : l[0].f0 = 4
        · rw [if_pos c4]
          by_cases c1 : l[0].f1.toList = [43]
          · rw [if_pos c1]
          · rw [if_neg c1]
            by_cases c2 : l[0].f1.toList = [45]
            · rw [if_pos c2]
            · rw [if_neg c2]
              exact back_loop l ok x hc hn hl d 1 k (by omega) (by omega) hm' (fun _ => by rw [hl0]; exact good_of (fun h => c1 h.2) (fun h => c2 h.2))
        · rw [if_neg c4]
          exact back_loop l ok x hc hn hl d 1 k (by omega) (by omega) hm' (fun _ => by rw [hl0]; exact good_of (fun h => c4 h.1) (fun h => c4 h.1))
      · rw [if_neg (by omega)]
        exact back_loop l ok x hc hn hl d (i + 1) k (by omega) (by omega) hm' (fun _ => hg (by omega))
theorem wf64 {x : Int} (h : (Lit.int .i64 x).wf = true) : -9223372036854775808 ≤ x ∧ x < 9223372036854775808 := by
  simp [Lit.wf, IntKind.min, IntKind.max, IntKind.signed, IntKind.bits] at h
  omega
theorem wfu8 {x : Int} (h : (Lit.int .u8 x).wf = true) : 0 ≤ x ∧ x ≤ 255 := by
  simp [Lit.wf, IntKind.min, IntKind.max, IntKind.signed, IntKind.bits] at h
  omega
theorem back_ok (a0 a1 : ByteArray) (a2 a3 : Int) (l : List S41) (ok : okB l) (hl : l.length ≤ 200) (h0 : a0.size ≤ 1000) (h1 : a1.size ≤ 1000) (h2 : -9223372036854775808 ≤ a2 ∧ a2 < 9223372036854775808) (h3 : 0 ≤ a3 ∧ a3 ≤ 255) :
    quoinlaw16_ExprBack.j0 (2001000 + 1) l true false a0 a1 a2 a3 = some true := by
  obtain ⟨m, rfl⟩ := Int.eq_ofNat_of_zero_le h3.1
  obtain ⟨x, hx⟩ : ∃ x : X, x = ⟨a0.data.toList, a1.data.toList, a2, m⟩ := ⟨_, rfl⟩
  have e0 : a0 = ⟨x.s.toArray⟩ := by subst hx; exact (arr_list a0).symm
  have e1 : a1 = ⟨x.l.toArray⟩ := by subst hx; exact (arr_list a1).symm
  have e2 : a2 = x.n := by rw [hx]
  have e3 : (m : Int) = (x.m : Int) := by rw [hx]
  have s1 : x.s.length ≤ 1000000 := by rw [hx]; show a0.data.toList.length ≤ 1000000; rw [list_len]; omega
  have s2 : x.l.length ≤ 1000000 := by rw [hx]; show a1.data.toList.length ≤ 1000000; rw [list_len]; omega
  have s3 : x.m ≤ 255 := by omega
  have hn : numX x := by rw [e2] at h2; exact h2
  rw [quoinlaw16_ExprBack.j0, if_neg (by simp), e0, e1, e2, e3, tokens_x x s1 s2 s3]
  cases hc : checkL x with
  | false => rfl
  | true =>
    rw [if_pos rfl]
    simp only [Option.bind_some]
    rw [if_pos trivial]
    exact back_loop l ok x hc hn hl l.length 0 2001000 (by omega) (by omega) (by simp) (by omega)
theorem ExprBack : quoinlaw16_ExprBack.Pure := by
  intro a0 a1 a2 a3 l _ _ h2 h3 hl
  refine ⟨2001000 + 1, ?_⟩
  obtain ⟨g, hg, hg2⟩ := ZR.great_f l hl.1 (2001000 + 1) (by omega)
  have stop : ∀ y, quoinlaw16_ExprBack.j0 (2001000 + 1) l true true y a1 a2 a3 = some true := fun y => by rw [quoinlaw16_ExprBack.j0]; rfl
  unfold quoinlaw16_ExprBack.f
  rw [alive_f, hg]
  simp only [Option.bind_some]
  by_cases c0 : (a0.size : Int) > 1000
  · rw [if_pos c0]
    exact stop a0
  rw [if_neg c0]
  by_cases c1 : (a1.size : Int) > 1000
  · rw [if_pos c1]
    exact stop a0
  rw [if_neg c1]
  cases g with
  | true => rw [if_pos rfl]; exact stop a0
  | false =>
    obtain ⟨g1, g2⟩ := hg2 rfl
    rw [if_neg (by simp)]
    exact back_ok a0 a1 a2 a3 l (ok_great hl.2 g1 g2) g1 (by omega) (by omega) (wf64 h2) (wfu8 h3)
end Go.Proofs.YtgihgmniijhfoaaDoor.Pure
