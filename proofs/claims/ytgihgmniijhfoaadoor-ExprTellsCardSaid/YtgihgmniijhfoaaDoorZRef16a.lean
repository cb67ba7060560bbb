/- What the document's own functions on an expression compute: whether it may be, and its tokens. -/
import Derived.Test.YtgihgmniijhfoaaDoorPx13
import Derived.Test.YtgihgmniijhfoaaDoorPx14
import Derived.Test.YtgihgmniijhfoaaDoorPx10
import Derived.Test.YtgihgmniijhfoaaDoorZRef15
import Derived.Test.YtgihgmniijhfoaaDoorZExprTok
namespace Go.Proofs.YtgihgmniijhfoaaDoor.ZR
open Go.RowKit Go.Proofs.YtgihgmniijhfoaaDoor.P Go.Proofs.YtgihgmniijhfoaaDoor.P.TK.ZT Go.Proofs.YtgihgmniijhfoaaDoor.Ex Go.Proofs.YtgihgmniijhfoaaDoor.ZU Go.Proofs.YtgihgmniijhfoaaDoorW.PrintWords Go.Proofs.YtgihgmniijhfoaaDoorW.PrintLast Go.Proofs.YtgihgmniijhfoaaDoorW.PrintMore Go.Proofs.YtgihgmniijhfoaaDoor.Lex
set_option linter.unusedVariables false
set_option linter.unusedSimpArgs false
theorem hd_at (s : ByteArray) (h : 0 < s.size) : s.data.toList.getD 0 0 = s[0] := by
  have : 0 < s.data.toList.length := by rw [size_data]; exact h
  simp [List.getD, List.getElem?_eq_getElem this]
  rfl
theorem rword_f (s : ByteArray) (hs : s.size ≤ 1000000) (k : Nat) (hk : 1000100 ≤ k) : quoinref16_Word.f k s = some (wordL s.data.toList) := by
  unfold quoinref16_Word.f
  rw [rname_f s (by omega) k (by omega), rlocal_f s (by omega) k (by omega)]
  simp only [Option.bind_some]
  have hd : ∀ h : 0 < s.size, ((bt s 0) != 37) = !(s.data.toList.getD 0 0 == 37) := by
    intro h
    rw [show bt s 0 = (s[0].toNat : Int) from bt_lt s 0 h, pct, hd_at s h]
  have hpos : (nameL s.data.toList || localL s.data.toList) = true → 0 < s.size := by
    intro h
    have : s.data.toList ≠ [] := by
      intro e
      rw [e] at h
      exact absurd h (by decide)
    rw [← size_data]
    exact List.length_pos_iff.2 this
  unfold wordL
  cases hn : nameL s.data.toList with
  | true =>
    have h := hpos (by rw [hn]; rfl)
    rw [if_pos rfl, if_pos (by omega), hd h]
    rfl
  | false =>
    rw [if_neg (by simp)]
    cases hl : localL s.data.toList with
    | true =>
      have h := hpos (by rw [hl]; simp)
      rw [if_pos rfl, if_pos (by omega), hd h]
      rfl
    | false => rfl
theorem may_ref (x : X) (h1 : x.s.length ≤ 1000000) (h2 : x.l.length ≤ 1000000) (k : Nat) (hk : 1000100 ≤ k) : quoinref16_May.f k ⟨x.s.toArray⟩ ⟨x.l.toArray⟩ x.n (x.m : Int) = some (checkL x) := by
  unfold quoinref16_May.f checkL
  rw [rword_f _ (by rw [size_arr]; exact h1) k hk, rword_f _ (by rw [size_arr]; exact h2) k hk, tl, tl]
  simp only [Option.bind_some]
  have e : decide ((x.m : Int) ≤ 4) = decide (x.m ≤ 4) := by
    by_cases h : x.m ≤ 4
    · rw [decide_eq_true h, decide_eq_true (by omega)]
    · rw [decide_eq_false h, decide_eq_false (by omega)]
  rw [e]
  by_cases c1 : x.s = [] <;> by_cases c2 : x.l = [] <;> cases c3 : wordL x.s <;> cases c4 : wordL x.l <;> simp [c1, c2, c3, c4]
theorem told_j0 (x : X) (hc : checkL x = true) (pre : List S41) (hp : pre.length ≤ 10) (k : Nat) :
    quoinref16_Told.j0 (k + 2) pre ⟨x.s.toArray⟩ ⟨x.l.toArray⟩ x.n (x.m : Int) = some (pre ++ (bodyX x).map TK.tkS ++ (if 0 < x.m then [TK.tkS (mk 41)] else [])) := by
  obtain ⟨hs, hl, hm⟩ := check_parts hc
  have z1 : pre.length < 4398046511104 := by omega
  have z2 : pre.length + 1 < 4398046511104 := by omega
  have z3 : pre.length + 3 < 4398046511104 := by omega
  have z5 : pre.length + 5 < 4398046511104 := by omega
  have m0 : ((x.m : Int) > 0) = (0 < x.m) := by simp
  rw [quoinref16_Told.j0, tl, tl]
  by_cases c1 : x.s = []
  · have c2 : x.l = [] := by
      rcases hl with h | h
      · exact h
      · exact absurd c1 h.1
    by_cases c3 : 0 < x.m <;> simp [bodyX, c1, c2, c3, TK.tkS, quoinref16_mark.f, mk, z1, z2]
  · by_cases c2 : x.l = []
    · by_cases c4 : x.n = 0
      · rw [if_neg c1, if_pos c2, quoinref16_Told.j1]
        by_cases c3 : 0 < x.m <;> simp [bodyX, c1, c2, c3, c4, TK.tkS, quoinref16_mark.f, quoinref16_word.f, mk, z1, z2, tl]
      · rw [if_neg c1, if_pos c2, quoinref16_Told.j1]
        by_cases c3 : 0 < x.m <;> simp [bodyX, c1, c2, c3, c4, TK.tkS, quoinref16_mark.f, quoinref16_word.f, mk, z1, z2, z3, tl]
    · rw [if_neg c1, if_neg c2, quoinref16_Told.j1]
      by_cases c4 : x.n = 0
      · by_cases c3 : 0 < x.m <;> simp [bodyX, c1, c2, c3, c4, TK.tkS, quoinref16_mark.f, quoinref16_word.f, mk, z1, z2, z3, tl]
      · by_cases c3 : 0 < x.m <;> simp [bodyX, c1, c2, c3, c4, TK.tkS, quoinref16_mark.f, quoinref16_word.f, mk, z1, z2, z5, tl]
theorem told_ref (x : X) (hc : checkL x = true) (k : Nat) : quoinref16_Told.f (k + 2) ⟨x.s.toArray⟩ ⟨x.l.toArray⟩ x.n (x.m : Int) = some ((toksX x).map TK.tkS) := by
  obtain ⟨hs, hl, hm⟩ := check_parts hc
  unfold quoinref16_Told.f
  simp only [Option.bind_some]
  rw [toks_body]
  by_cases c3 : 0 < x.m
  · rw [if_pos (by omega), if_pos (by omega), if_pos (by simp; omega)]
    have hr : rdOf ByteArray.empty [(⟨#[]⟩ : ByteArray), (⟨#[37, 104, 105]⟩ : ByteArray), (⟨#[37, 108, 111]⟩ : ByteArray), (⟨#[37, 112, 99, 114, 101, 108, 95, 104, 105]⟩ : ByteArray), (⟨#[37, 112, 99, 114, 101, 108, 95, 108, 111]⟩ : ByteArray)] (x.m : Int) = ⟨(modName x.m).toArray⟩ := by
      have : x.m = 1 ∨ x.m = 2 ∨ x.m = 3 ∨ x.m = 4 := by omega
      rcases this with h | h | h | h <;> rw [h] <;> rfl
    rw [hr]
    simp only [quoinref16_word.f, quoinref16_mark.f, Option.bind_some, List.nil_append, List.length_nil, List.length_cons]
    rw [if_pos (by omega), told_j0 x hc _ (by simp) k, if_pos c3, if_pos c3, if_pos c3]
    simp only [List.map_append, List.map_cons, List.map_nil]
    rfl
  · rw [if_neg (by omega), told_j0 x hc [] (by simp) k, if_neg c3, if_neg c3, if_neg c3]
    simp
end Go.Proofs.YtgihgmniijhfoaaDoor.ZR
